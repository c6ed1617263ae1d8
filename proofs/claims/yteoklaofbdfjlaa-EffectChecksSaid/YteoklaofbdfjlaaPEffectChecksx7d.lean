-- Written by a program of this session: the printer, with contracts put in that were proved by hand. Lean checks it.
import Derived.Test.YteoklaofbdfjlaaPEffectChecksx0
import Derived.Test.YteoklaofbdfjlaaPEffectChecksx6
namespace Go.Proofs.Yteoklaofbdfjlaa.PEffectChecks
open Go.RowKit Go.Proofs.YteoklaofbdfjlaaW.PrintWords Go.Proofs.YteoklaofbdfjlaaW.PrintLast Go.Proofs.YteoklaofbdfjlaaW.PrintMore
attribute [local go_sem] L.setCell_drewN max2_int min2_int max_two min_two max_three min_three max_four min_four   -- for this text's walks alone
set_option linter.unusedVariables false
set_option linter.unusedSimpArgs false

/-! ### sumpref09_Check: function 15 -/
mutual
def sumpref09_Check.j0 : Nat → Bool → Int → Int → Int → Int → Int → Int → ByteArray → ByteArray → List Int → Option (Int)
 | 0, _, _, _, _, _, _, _, _, _, _ => none
 | k + 1, x3, x133000, x133001, x133002, x133003, x133004, x133005, x133006, x133007, x133008 => if x133002 = 0 then (sumpref09_Check.j1 k x3 (x133006.toList == ([] : List UInt8)) x133000 x133001 x133002 x133003 x133004 x133005 x133006 x133007 x133008) else (sumpref09_Check.j1 k x3 false x133000 x133001 x133002 x133003 x133004 x133005 x133006 x133007 x133008)
def sumpref09_Check.j1 : Nat → Bool → Bool → Int → Int → Int → Int → Int → Int → ByteArray → ByteArray → List Int → Option (Int)
 | 0, _, _, _, _, _, _, _, _, _, _, _ => none
 | k + 1, x3, x4, x133000, x133001, x133002, x133003, x133004, x133005, x133006, x133007, x133008 => if x133003 = 0 then (sumpref09_Check.j2 k x3 x4 (x133007.toList == ([] : List UInt8)) x133000 x133001 x133002 x133003 x133004 x133005 x133006 x133007 x133008) else (sumpref09_Check.j2 k x3 x4 false x133000 x133001 x133002 x133003 x133004 x133005 x133006 x133007 x133008)
def sumpref09_Check.j2 : Nat → Bool → Bool → Bool → Int → Int → Int → Int → Int → Int → ByteArray → ByteArray → List Int → Option (Int)
 | 0, _, _, _, _, _, _, _, _, _, _, _, _ => none
 | k + 1, x3, x4, x5, x133000, x133001, x133002, x133003, x133004, x133005, x133006, x133007, x133008 => if x133000 = 1 then (if x3 = true then (if x5 = true then (if (x133008.length : Int) = 0 then (if x133004 = 1 then (if x133005 = 0 then ((sumpref09_number.f x133001).bind fun t135 => (if t135 = true then (some 0) else (some 92))) else (some 92)) else (if x133004 = 2 then (if x133005 = 0 then ((sumpref09_number.f x133001).bind fun t136 => (if t136 = true then (some 0) else (some 92))) else (some 92)) else (some 92))) else (some 92)) else (some 92)) else (some 92)) else (if x133000 = 2 then (sumpref09_Check.j3 k x3 x4 x5 ((x133008.length : Int) == 0) x133000 (x133000 == 2) x133000 x133001 x133002 x133003 x133004 x133005 x133006 x133007 x133008) else (if x133000 = 3 then (sumpref09_Check.j3 k x3 x4 x5 ((x133008.length : Int) == 0) x133000 (x133000 == 3) x133000 x133001 x133002 x133003 x133004 x133005 x133006 x133007 x133008) else (sumpref09_Check.j3 k x3 x4 x5 ((x133008.length : Int) == 0) x133000 (x133000 == 4) x133000 x133001 x133002 x133003 x133004 x133005 x133006 x133007 x133008)))
def sumpref09_Check.j3 : Nat → Bool → Bool → Bool → Bool → Int → Bool → Int → Int → Int → Int → Int → Int → ByteArray → ByteArray → List Int → Option (Int)
 | 0, _, _, _, _, _, _, _, _, _, _, _, _, _, _, _ => none
 | k + 1, x3, x4, x5, x6, x38, x63, x133000, x133001, x133002, x133003, x133004, x133005, x133006, x133007, x133008 => if x63 = true then (if x3 = true then (if x5 = true then (if x6 = true then (if x133004 = 0 then (if x133005 = 0 then ((sumpref09_number.f x133001).bind fun t137 => (if t137 = true then (some 0) else (some 92))) else (some 92)) else (some 92)) else (some 92)) else (some 92)) else (some 92)) else (if x38 = 5 then (if x3 = true then ((sumpref09_number.f x133003).bind fun t138 => (if t138 = true then ((sumpref01_Name.f k x133007).bind fun t139 => (if t139 = 0 then (if x6 = true then (if x133004 = 0 then (if x133005 = 0 then ((sumpref09_number.f x133001).bind fun t140 => (if t140 = true then (some 0) else (some 92))) else (some 92)) else (some 92)) else (some 92)) else (some 92))) else (some 92))) else (some 92)) else (if x38 = 6 then (if x4 = true then (if x5 = true then (if x6 = true then (if x133004 = 0 then (if x133005 ≥ 0 then (if x133005 ≤ 16384 then ((sumpref09_number.f x133001).bind fun t141 => (if t141 = true then (some 0) else (some 92))) else (some 92)) else (some 92)) else (some 92)) else (some 92)) else (some 92)) else (some 92)) else (if x38 = 7 then (if x4 = true then (if x5 = true then (if (x133008.length : Int) = 256 then (if x133004 ≥ 0 then (if x133004 ≤ 63 then (if x133005 ≤ 16384 then (if (x133005 > (wrap64 (256 * x133004))) then ((sumpref09_number.f x133001).bind fun t142 => (if t142 = true then (some 0) else (some 92))) else (some 92)) else (some 92)) else (some 92)) else (some 92)) else (some 92)) else (some 92)) else (some 92)) else (if x38 = 8 then (if x4 = true then (if x5 = true then (if x6 = true then (if x133004 = 0 then (if x133005 = 0 then ((sumpref09_number.f x133001).bind fun t143 => (if t143 = true then (some 0) else (some 92))) else (some 92)) else (some 92)) else (some 92)) else (some 92)) else (some 92)) else (some 92)))))
end
def sumpref09_Check.f (k : Nat) (a0_0 : Int) (a0_1 : Int) (a0_2 : Int) (a0_3 : Int) (a0_4 : Int) (a0_5 : Int) (a0_6 : ByteArray) (a0_7 : ByteArray) (l0_8 : List Int) : Option (Int) := (sumpref09_number.f a0_2).bind fun t133 => (if t133 = true then ((sumpref01_Name.f k a0_6).bind fun t134 => (sumpref09_Check.j0 k (t134 == 0) a0_0 a0_1 a0_2 a0_3 a0_4 a0_5 a0_6 a0_7 l0_8)) else (sumpref09_Check.j0 k false a0_0 a0_1 a0_2 a0_3 a0_4 a0_5 a0_6 a0_7 l0_8))
theorem sumpref09_Check.mono_l : ∀ k, (∀ y0 y1 y2 y3 y4 y5 y6 y7 y8 y9, LeO (sumpref09_Check.j0 k y0 y1 y2 y3 y4 y5 y6 y7 y8 y9) (sumpref09_Check.j0 (k + 1) y0 y1 y2 y3 y4 y5 y6 y7 y8 y9)) ∧ (∀ y0 y1 y2 y3 y4 y5 y6 y7 y8 y9 y10, LeO (sumpref09_Check.j1 k y0 y1 y2 y3 y4 y5 y6 y7 y8 y9 y10) (sumpref09_Check.j1 (k + 1) y0 y1 y2 y3 y4 y5 y6 y7 y8 y9 y10)) ∧ (∀ y0 y1 y2 y3 y4 y5 y6 y7 y8 y9 y10 y11, LeO (sumpref09_Check.j2 k y0 y1 y2 y3 y4 y5 y6 y7 y8 y9 y10 y11) (sumpref09_Check.j2 (k + 1) y0 y1 y2 y3 y4 y5 y6 y7 y8 y9 y10 y11)) ∧ (∀ y0 y1 y2 y3 y4 y5 y6 y7 y8 y9 y10 y11 y12 y13 y14, LeO (sumpref09_Check.j3 k y0 y1 y2 y3 y4 y5 y6 y7 y8 y9 y10 y11 y12 y13 y14) (sumpref09_Check.j3 (k + 1) y0 y1 y2 y3 y4 y5 y6 y7 y8 y9 y10 y11 y12 y13 y14))
 | 0 => ⟨fun _ _ _ _ _ _ _ _ _ _ r h => by simp [sumpref09_Check.j0] at h, fun _ _ _ _ _ _ _ _ _ _ _ r h => by simp [sumpref09_Check.j1] at h, fun _ _ _ _ _ _ _ _ _ _ _ _ r h => by simp [sumpref09_Check.j2] at h, fun _ _ _ _ _ _ _ _ _ _ _ _ _ _ _ r h => by simp [sumpref09_Check.j3] at h⟩
 | k + 1 => by
  obtain ⟨ih0, ih1, ih2, ih3⟩ := sumpref09_Check.mono_l k
  refine ⟨?_, ?_, ?_, ?_⟩
  ·intro y0 y1 y2 y3 y4 y5 y6 y7 y8 y9
   unfold sumpref09_Check.j0
   repeat' first
   | (with_reducible exact ih0 _ _ _ _ _ _ _ _ _ _)
   | (with_reducible exact ih1 _ _ _ _ _ _ _ _ _ _ _)
   | (with_reducible exact ih2 _ _ _ _ _ _ _ _ _ _ _ _)
   | (with_reducible exact ih3 _ _ _ _ _ _ _ _ _ _ _ _ _ _ _)
   | (with_reducible exact sumpref01_Name.mono _ _)
   | (with_reducible exact LeO.refl _)
   | (with_reducible exact LeO.none _)
   | (with_reducible refine LeO.ite ?_ ?_)
   | (with_reducible refine LeO.bind ?_ (fun _ => ?_))
   | exact ih0 _ _ _ _ _ _ _ _ _ _
   | exact ih1 _ _ _ _ _ _ _ _ _ _ _
   | exact ih2 _ _ _ _ _ _ _ _ _ _ _ _
   | exact ih3 _ _ _ _ _ _ _ _ _ _ _ _ _ _ _
   | exact sumpref01_Name.mono _ _
   | exact LeO.none _
   | refine LeO.ite ?_ ?_
   | refine LeO.bind ?_ (fun _ => ?_)
  ·intro y0 y1 y2 y3 y4 y5 y6 y7 y8 y9 y10
   unfold sumpref09_Check.j1
   repeat' first
   | (with_reducible exact ih0 _ _ _ _ _ _ _ _ _ _)
   | (with_reducible exact ih1 _ _ _ _ _ _ _ _ _ _ _)
   | (with_reducible exact ih2 _ _ _ _ _ _ _ _ _ _ _ _)
   | (with_reducible exact ih3 _ _ _ _ _ _ _ _ _ _ _ _ _ _ _)
   | (with_reducible exact sumpref01_Name.mono _ _)
   | (with_reducible exact LeO.refl _)
   | (with_reducible exact LeO.none _)
   | (with_reducible refine LeO.ite ?_ ?_)
   | (with_reducible refine LeO.bind ?_ (fun _ => ?_))
   | exact ih0 _ _ _ _ _ _ _ _ _ _
   | exact ih1 _ _ _ _ _ _ _ _ _ _ _
   | exact ih2 _ _ _ _ _ _ _ _ _ _ _ _
   | exact ih3 _ _ _ _ _ _ _ _ _ _ _ _ _ _ _
   | exact sumpref01_Name.mono _ _
   | exact LeO.none _
   | refine LeO.ite ?_ ?_
   | refine LeO.bind ?_ (fun _ => ?_)
  ·intro y0 y1 y2 y3 y4 y5 y6 y7 y8 y9 y10 y11
   unfold sumpref09_Check.j2
   repeat' first
   | (with_reducible exact ih0 _ _ _ _ _ _ _ _ _ _)
   | (with_reducible exact ih1 _ _ _ _ _ _ _ _ _ _ _)
   | (with_reducible exact ih2 _ _ _ _ _ _ _ _ _ _ _ _)
   | (with_reducible exact ih3 _ _ _ _ _ _ _ _ _ _ _ _ _ _ _)
   | (with_reducible exact sumpref01_Name.mono _ _)
   | (with_reducible exact LeO.refl _)
   | (with_reducible exact LeO.none _)
   | (with_reducible refine LeO.ite ?_ ?_)
   | (with_reducible refine LeO.bind ?_ (fun _ => ?_))
   | exact ih0 _ _ _ _ _ _ _ _ _ _
   | exact ih1 _ _ _ _ _ _ _ _ _ _ _
   | exact ih2 _ _ _ _ _ _ _ _ _ _ _ _
   | exact ih3 _ _ _ _ _ _ _ _ _ _ _ _ _ _ _
   | exact sumpref01_Name.mono _ _
   | exact LeO.none _
   | refine LeO.ite ?_ ?_
   | refine LeO.bind ?_ (fun _ => ?_)
  ·intro y0 y1 y2 y3 y4 y5 y6 y7 y8 y9 y10 y11 y12 y13 y14
   unfold sumpref09_Check.j3
   repeat' first
   | (with_reducible exact ih0 _ _ _ _ _ _ _ _ _ _)
   | (with_reducible exact ih1 _ _ _ _ _ _ _ _ _ _ _)
   | (with_reducible exact ih2 _ _ _ _ _ _ _ _ _ _ _ _)
   | (with_reducible exact ih3 _ _ _ _ _ _ _ _ _ _ _ _ _ _ _)
   | (with_reducible exact sumpref01_Name.mono _ _)
   | (with_reducible exact LeO.refl _)
   | (with_reducible exact LeO.none _)
   | (with_reducible refine LeO.ite ?_ ?_)
   | (with_reducible refine LeO.bind ?_ (fun _ => ?_))
   | exact ih0 _ _ _ _ _ _ _ _ _ _
   | exact ih1 _ _ _ _ _ _ _ _ _ _ _
   | exact ih2 _ _ _ _ _ _ _ _ _ _ _ _
   | exact ih3 _ _ _ _ _ _ _ _ _ _ _ _ _ _ _
   | exact sumpref01_Name.mono _ _
   | exact LeO.none _
   | refine LeO.ite ?_ ?_
   | refine LeO.bind ?_ (fun _ => ?_)
theorem sumpref09_Check.mono : ∀ a0 a1 a2 a3 a4 a5 a6 a7 a8 k, LeO (sumpref09_Check.f k a0 a1 a2 a3 a4 a5 a6 a7 a8) (sumpref09_Check.f (k + 1) a0 a1 a2 a3 a4 a5 a6 a7 a8) := by
 intro a0 a1 a2 a3 a4 a5 a6 a7 a8 k
 obtain ⟨ih0, ih1, ih2, ih3⟩ := sumpref09_Check.mono_l k
 unfold sumpref09_Check.f
 repeat' first
   | (with_reducible exact ih0 _ _ _ _ _ _ _ _ _ _)
   | (with_reducible exact ih1 _ _ _ _ _ _ _ _ _ _ _)
   | (with_reducible exact ih2 _ _ _ _ _ _ _ _ _ _ _ _)
   | (with_reducible exact ih3 _ _ _ _ _ _ _ _ _ _ _ _ _ _ _)
   | (with_reducible exact sumpref01_Name.mono _ _)
   | (with_reducible exact LeO.refl _)
   | (with_reducible exact LeO.none _)
   | (with_reducible refine LeO.ite ?_ ?_)
   | (with_reducible refine LeO.bind ?_ (fun _ => ?_))
   | exact ih0 _ _ _ _ _ _ _ _ _ _
   | exact ih1 _ _ _ _ _ _ _ _ _ _ _
   | exact ih2 _ _ _ _ _ _ _ _ _ _ _ _
   | exact ih3 _ _ _ _ _ _ _ _ _ _ _ _ _ _ _
   | exact sumpref01_Name.mono _ _
   | exact LeO.none _
   | refine LeO.ite ?_ ?_
   | refine LeO.bind ?_ (fun _ => ?_)
end Go.Proofs.Yteoklaofbdfjlaa.PEffectChecks
