-- Written by a program of this session: the printer, with contracts put in that were proved by hand. Lean checks it.
import Derived.Test.YtbdehbaiihlacaaPUsageDoesx0
import Derived.Test.YtbdehbaiihlacaaPUsageDoesx1
import Derived.Test.YtbdehbaiihlacaaPUsageDoesx2
namespace Go.Proofs.Ytbdehbaiihlacaa.PUsageDoes
open Go.RowKit Go.Proofs.YtbdehbaiihlacaaW.PrintWords Go.Proofs.YtbdehbaiihlacaaW.PrintLast Go.Proofs.YtbdehbaiihlacaaW.PrintMore
attribute [local go_sem] L.setCell_drewN max2_int min2_int max_two min_two max_three min_three max_four min_four   -- for this text's walks alone
set_option linter.unusedVariables false
set_option linter.unusedSimpArgs false

/-! ### sumplaw42_UsageDoes: function 3 -/
mutual
def sumplaw42_UsageDoes.j0 : Nat → List (S29) → ByteArray → ByteArray → List (S31) → Bool → Option (Bool)
  | 0, _, _, _, _, _ => none
  | k + 1, x0, x1, x2, x3, x41 => if x41 = true then (some true) else ((usage_Of.f k x0).bind fun t130 => (sumplaw42_UsageDoes.l0 k x0 x1 x2 x3 t130 0 x0 (x0.length : Int) 0))
def sumplaw42_UsageDoes.l0 : Nat → List (S29) → ByteArray → ByteArray → List (S31) → List (S31) → Int → List (S29) → Int → Int → Option (Bool)
  | 0, _, _, _, _, _, _, _, _, _ => none
  | k + 1, x0, x1, x2, x3, x9, x10, x44, x45, x46 => if x46 < x45 then (if 0 ≤ x46 then (if x46 < (x44.length : Int) then (if ((rd_T29 x44 x46).f2) = 2 then (sumplaw42_UsageDoes.l1 k x0 x1 x2 x3 x9 x10 x44 x45 x46 x0 (x0.length : Int) 0 ((rd_T29 x44 x46).f0) ((rd_T29 x44 x46).f1) ((rd_T29 x44 x46).f2) ((rd_T29 x44 x46).f3) ((rd_T29 x44 x46).f4) ((rd_T29 x44 x46).f0) 0 0 0) else (sumplaw42_UsageDoes.l0 k x0 x1 x2 x3 x9 x10 x44 x45 (wrap64 (x46 + 1)))) else (none)) else (none)) else (sumplaw42_UsageDoes.l2 k x1 x2 x3 x9 x10 false x3 (x3.length : Int) 0 (⟨#[]⟩ : ByteArray) 0 0 0)
def sumplaw42_UsageDoes.l1 : Nat → List (S29) → ByteArray → ByteArray → List (S31) → List (S31) → Int → List (S29) → Int → Int → List (S29) → Int → Int → ByteArray → Int → Int → Int → List Int → ByteArray → Int → Int → Int → Option (Bool)
  | 0, _, _, _, _, _, _, _, _, _, _, _, _, _, _, _, _, _, _, _, _, _ => none
  | k + 1, x0, x1, x2, x3, x9, x10, x44, x45, x46, x56, x57, x58, x135000, x135001, x135002, x135003, x135004, x136000, x136001, x136002, x136003 => if x58 < x57 then (if 0 ≤ x58 then (if x58 < (x56.length : Int) then ((sumplaw42_below.f ((rd_T29 x56 x58).f0) x135000).bind fun t139 => (if t139 = true then (sumplaw42_UsageDoes.j3 k x0 x1 x2 x3 x9 x10 x44 x45 x46 x56 x57 x58 (((rd_T29 x56 x58).f2) == 1) x135000 x135001 x135002 x135003 x135004 x136000 x136001 x136002 x136003 ((rd_T29 x56 x58).f0) ((rd_T29 x56 x58).f1) ((rd_T29 x56 x58).f2) ((rd_T29 x56 x58).f3) ((rd_T29 x56 x58).f4)) else (sumplaw42_UsageDoes.j3 k x0 x1 x2 x3 x9 x10 x44 x45 x46 x56 x57 x58 false x135000 x135001 x135002 x135003 x135004 x136000 x136001 x136002 x136003 ((rd_T29 x56 x58).f0) ((rd_T29 x56 x58).f1) ((rd_T29 x56 x58).f2) ((rd_T29 x56 x58).f3) ((rd_T29 x56 x58).f4)))) else (none)) else (none)) else (if x10 ≥ (x9.length : Int) then (some false) else (if 0 ≤ x10 then (if x10 < (x9.length : Int) then (if (((rd_T31 x9 x10).f0).toList) = x136000.toList then (if ((rd_T31 x9 x10).f1) = x136001 then (if ((rd_T31 x9 x10).f2) = x136002 then (if ((rd_T31 x9 x10).f3) = x136003 then (sumplaw42_UsageDoes.l0 k x0 x1 x2 x3 x9 (wrap64 (x10 + 1)) x44 x45 (wrap64 (x46 + 1))) else (some false)) else (some false)) else (some false)) else (some false)) else (none)) else (none)))
def sumplaw42_UsageDoes.j3 : Nat → List (S29) → ByteArray → ByteArray → List (S31) → List (S31) → Int → List (S29) → Int → Int → List (S29) → Int → Int → Bool → ByteArray → Int → Int → Int → List Int → ByteArray → Int → Int → Int → ByteArray → Int → Int → Int → List Int → Option (Bool)
  | 0, _, _, _, _, _, _, _, _, _, _, _, _, _, _, _, _, _, _, _, _, _, _, _, _, _, _, _ => none
  | k + 1, x0, x1, x2, x3, x9, x10, x44, x45, x46, x56, x57, x58, x71, x135000, x135001, x135002, x135003, x135004, x136000, x136001, x136002, x136003, x139000, x139001, x139002, x139003, x139004 => if x71 = true then (if x139003 > 0 then (sumplaw42_UsageDoes.j4 k x0 x1 x2 x3 x9 x10 x44 x45 x46 x56 x57 x58 (decide (x139003 ≤ 1099511627776)) x135000 x135001 x135002 x135003 x135004 x136000 (wrap64 (x136001 + 1)) x136002 x136003 x139000 x139001 x139002 x139003 x139004) else (sumplaw42_UsageDoes.j4 k x0 x1 x2 x3 x9 x10 x44 x45 x46 x56 x57 x58 false x135000 x135001 x135002 x135003 x135004 x136000 (wrap64 (x136001 + 1)) x136002 x136003 x139000 x139001 x139002 x139003 x139004)) else ((sumplaw42_below.f x139000 x135000).bind fun t142 => (if t142 = true then (if x139002 = 2 then (sumplaw42_UsageDoes.l1 k x0 x1 x2 x3 x9 x10 x44 x45 x46 x56 x57 (wrap64 (x58 + 1)) x135000 x135001 x135002 x135003 x135004 x136000 x136001 (wrap64 (x136002 + 1)) x136003) else (sumplaw42_UsageDoes.l1 k x0 x1 x2 x3 x9 x10 x44 x45 x46 x56 x57 (wrap64 (x58 + 1)) x135000 x135001 x135002 x135003 x135004 x136000 x136001 x136002 x136003)) else (sumplaw42_UsageDoes.l1 k x0 x1 x2 x3 x9 x10 x44 x45 x46 x56 x57 (wrap64 (x58 + 1)) x135000 x135001 x135002 x135003 x135004 x136000 x136001 x136002 x136003)))
def sumplaw42_UsageDoes.j4 : Nat → List (S29) → ByteArray → ByteArray → List (S31) → List (S31) → Int → List (S29) → Int → Int → List (S29) → Int → Int → Bool → ByteArray → Int → Int → Int → List Int → ByteArray → Int → Int → Int → ByteArray → Int → Int → Int → List Int → Option (Bool)
  | 0, _, _, _, _, _, _, _, _, _, _, _, _, _, _, _, _, _, _, _, _, _, _, _, _, _, _, _ => none
  | k + 1, x0, x1, x2, x3, x9, x10, x44, x45, x46, x56, x57, x58, x83, x135000, x135001, x135002, x135003, x135004, x136000, x136001, x136002, x136003, x139000, x139001, x139002, x139003, x139004 => if x83 = true then ((sumplaw42_below.f x139000 x135000).bind fun t140 => (if t140 = true then (if x139002 = 2 then (sumplaw42_UsageDoes.l1 k x0 x1 x2 x3 x9 x10 x44 x45 x46 x56 x57 (wrap64 (x58 + 1)) x135000 x135001 x135002 x135003 x135004 x136000 x136001 (wrap64 (x136002 + 1)) (wrap64 (x136003 + x139003))) else (sumplaw42_UsageDoes.l1 k x0 x1 x2 x3 x9 x10 x44 x45 x46 x56 x57 (wrap64 (x58 + 1)) x135000 x135001 x135002 x135003 x135004 x136000 x136001 x136002 (wrap64 (x136003 + x139003)))) else (sumplaw42_UsageDoes.l1 k x0 x1 x2 x3 x9 x10 x44 x45 x46 x56 x57 (wrap64 (x58 + 1)) x135000 x135001 x135002 x135003 x135004 x136000 x136001 x136002 (wrap64 (x136003 + x139003))))) else ((sumplaw42_below.f x139000 x135000).bind fun t141 => (if t141 = true then (if x139002 = 2 then (sumplaw42_UsageDoes.l1 k x0 x1 x2 x3 x9 x10 x44 x45 x46 x56 x57 (wrap64 (x58 + 1)) x135000 x135001 x135002 x135003 x135004 x136000 x136001 (wrap64 (x136002 + 1)) x136003) else (sumplaw42_UsageDoes.l1 k x0 x1 x2 x3 x9 x10 x44 x45 x46 x56 x57 (wrap64 (x58 + 1)) x135000 x135001 x135002 x135003 x135004 x136000 x136001 x136002 x136003)) else (sumplaw42_UsageDoes.l1 k x0 x1 x2 x3 x9 x10 x44 x45 x46 x56 x57 (wrap64 (x58 + 1)) x135000 x135001 x135002 x135003 x135004 x136000 x136001 x136002 x136003)))
def sumplaw42_UsageDoes.l2 : Nat → ByteArray → ByteArray → List (S31) → List (S31) → Int → Bool → List (S31) → Int → Int → ByteArray → Int → Int → Int → Option (Bool)
  | 0, _, _, _, _, _, _, _, _, _, _, _, _, _ => none
  | k + 1, x1, x2, x3, x9, x10, x17, x121, x122, x123, x144000, x144001, x144002, x144003 => if x123 < x122 then (if 0 ≤ x123 then (if x123 < (x121.length : Int) then (if x17 = true then (sumplaw42_UsageDoes.l2 k x1 x2 x3 x9 x10 x17 x121 x122 (wrap64 (x123 + 1)) x144000 x144001 x144002 x144003) else (if ((rd_T31 x121 x123).f0).toList = x1.toList then (sumplaw42_UsageDoes.l2 k x1 x2 x3 x9 x10 true x121 x122 (wrap64 (x123 + 1)) ((rd_T31 x121 x123).f0) ((rd_T31 x121 x123).f1) ((rd_T31 x121 x123).f2) ((rd_T31 x121 x123).f3)) else (sumplaw42_UsageDoes.l2 k x1 x2 x3 x9 x10 x17 x121 x122 (wrap64 (x123 + 1)) x144000 x144001 x144002 x144003))) else (none)) else (none)) else ((usage_At.f k x3 x1).bind fun bt146 => (if x10 = (x9.length : Int) then ((usage_Below.f x1 x2).bind fun t152 => ((sumplaw42_below.f x1 x2).bind fun t153 => (if (t152 == t153) = true then (if bt146.1.toList = x144000.toList then (if bt146.2.1 = x144001 then (if bt146.2.2.1 = x144002 then (if bt146.2.2.2.1 = x144003 then (some (bt146.2.2.2.2 == x17)) else (some false)) else (some false)) else (some false)) else (some false)) else (some false)))) else (some false)))
end
def sumplaw42_UsageDoes.f (k : Nat) (l0 : List (S29)) (a1 : ByteArray) (a2 : ByteArray) (l3 : List (S31)) : Option (Bool) := (sumplaw42_awake.f k).bind fun t128 => (if t128 = true then ((sumplaw23_Few.f k l0).bind fun t129 => (if t129 = true then (if (a1.size : Int) > 200 then (sumplaw42_UsageDoes.j0 k l0 a1 a2 l3 true) else (if (a2.size : Int) > 200 then (sumplaw42_UsageDoes.j0 k l0 a1 a2 l3 true) else (sumplaw42_UsageDoes.j0 k l0 a1 a2 l3 (decide ((l3.length : Int) > 30))))) else (sumplaw42_UsageDoes.j0 k l0 a1 a2 l3 true))) else (some false))
theorem sumplaw42_UsageDoes.mono_l : ∀ k, (∀ y0 y1 y2 y3 y4, LeO (sumplaw42_UsageDoes.j0 k y0 y1 y2 y3 y4) (sumplaw42_UsageDoes.j0 (k + 1) y0 y1 y2 y3 y4)) ∧ (∀ y0 y1 y2 y3 y4 y5 y6 y7 y8, LeO (sumplaw42_UsageDoes.l0 k y0 y1 y2 y3 y4 y5 y6 y7 y8) (sumplaw42_UsageDoes.l0 (k + 1) y0 y1 y2 y3 y4 y5 y6 y7 y8)) ∧ (∀ y0 y1 y2 y3 y4 y5 y6 y7 y8 y9 y10 y11 y12 y13 y14 y15 y16 y17 y18 y19 y20, LeO (sumplaw42_UsageDoes.l1 k y0 y1 y2 y3 y4 y5 y6 y7 y8 y9 y10 y11 y12 y13 y14 y15 y16 y17 y18 y19 y20) (sumplaw42_UsageDoes.l1 (k + 1) y0 y1 y2 y3 y4 y5 y6 y7 y8 y9 y10 y11 y12 y13 y14 y15 y16 y17 y18 y19 y20)) ∧ (∀ y0 y1 y2 y3 y4 y5 y6 y7 y8 y9 y10 y11 y12 y13 y14 y15 y16 y17 y18 y19 y20 y21 y22 y23 y24 y25 y26, LeO (sumplaw42_UsageDoes.j3 k y0 y1 y2 y3 y4 y5 y6 y7 y8 y9 y10 y11 y12 y13 y14 y15 y16 y17 y18 y19 y20 y21 y22 y23 y24 y25 y26) (sumplaw42_UsageDoes.j3 (k + 1) y0 y1 y2 y3 y4 y5 y6 y7 y8 y9 y10 y11 y12 y13 y14 y15 y16 y17 y18 y19 y20 y21 y22 y23 y24 y25 y26)) ∧ (∀ y0 y1 y2 y3 y4 y5 y6 y7 y8 y9 y10 y11 y12 y13 y14 y15 y16 y17 y18 y19 y20 y21 y22 y23 y24 y25 y26, LeO (sumplaw42_UsageDoes.j4 k y0 y1 y2 y3 y4 y5 y6 y7 y8 y9 y10 y11 y12 y13 y14 y15 y16 y17 y18 y19 y20 y21 y22 y23 y24 y25 y26) (sumplaw42_UsageDoes.j4 (k + 1) y0 y1 y2 y3 y4 y5 y6 y7 y8 y9 y10 y11 y12 y13 y14 y15 y16 y17 y18 y19 y20 y21 y22 y23 y24 y25 y26)) ∧ (∀ y0 y1 y2 y3 y4 y5 y6 y7 y8 y9 y10 y11 y12, LeO (sumplaw42_UsageDoes.l2 k y0 y1 y2 y3 y4 y5 y6 y7 y8 y9 y10 y11 y12) (sumplaw42_UsageDoes.l2 (k + 1) y0 y1 y2 y3 y4 y5 y6 y7 y8 y9 y10 y11 y12))
  | 0 => ⟨fun _ _ _ _ _ r h => by simp [sumplaw42_UsageDoes.j0] at h, fun _ _ _ _ _ _ _ _ _ r h => by simp [sumplaw42_UsageDoes.l0] at h, fun _ _ _ _ _ _ _ _ _ _ _ _ _ _ _ _ _ _ _ _ _ r h => by simp [sumplaw42_UsageDoes.l1] at h, fun _ _ _ _ _ _ _ _ _ _ _ _ _ _ _ _ _ _ _ _ _ _ _ _ _ _ _ r h => by simp [sumplaw42_UsageDoes.j3] at h, fun _ _ _ _ _ _ _ _ _ _ _ _ _ _ _ _ _ _ _ _ _ _ _ _ _ _ _ r h => by simp [sumplaw42_UsageDoes.j4] at h, fun _ _ _ _ _ _ _ _ _ _ _ _ _ r h => by simp [sumplaw42_UsageDoes.l2] at h⟩
  | k + 1 => by
    obtain ⟨ih0, ih1, ih2, ih3, ih4, ih5⟩ := sumplaw42_UsageDoes.mono_l k
    refine ⟨?_, ?_, ?_, ?_, ?_, ?_⟩
    · intro y0 y1 y2 y3 y4
      unfold sumplaw42_UsageDoes.j0
      repeat' first
      | (with_reducible exact ih0 _ _ _ _ _)
      | (with_reducible exact ih1 _ _ _ _ _ _ _ _ _)
      | (with_reducible exact ih2 _ _ _ _ _ _ _ _ _ _ _ _ _ _ _ _ _ _ _ _ _)
      | (with_reducible exact ih3 _ _ _ _ _ _ _ _ _ _ _ _ _ _ _ _ _ _ _ _ _ _ _ _ _ _ _)
      | (with_reducible exact ih4 _ _ _ _ _ _ _ _ _ _ _ _ _ _ _ _ _ _ _ _ _ _ _ _ _ _ _)
      | (with_reducible exact ih5 _ _ _ _ _ _ _ _ _ _ _ _ _)
      | (with_reducible exact sumplaw23_Few.mono _ _)
      | (with_reducible exact sumplaw42_awake.mono _)
      | (with_reducible exact usage_At.mono _ _ _)
      | (with_reducible exact usage_Of.mono _ _)
      | (with_reducible exact LeO.refl _)
      | (with_reducible exact LeO.none _)
      | (with_reducible refine LeO.ite ?_ ?_)
      | (with_reducible refine LeO.bind ?_ (fun _ => ?_))
      | exact ih0 _ _ _ _ _
      | exact ih1 _ _ _ _ _ _ _ _ _
      | exact ih2 _ _ _ _ _ _ _ _ _ _ _ _ _ _ _ _ _ _ _ _ _
      | exact ih3 _ _ _ _ _ _ _ _ _ _ _ _ _ _ _ _ _ _ _ _ _ _ _ _ _ _ _
      | exact ih4 _ _ _ _ _ _ _ _ _ _ _ _ _ _ _ _ _ _ _ _ _ _ _ _ _ _ _
      | exact ih5 _ _ _ _ _ _ _ _ _ _ _ _ _
      | exact sumplaw23_Few.mono _ _
      | exact sumplaw42_awake.mono _
      | exact usage_At.mono _ _ _
      | exact usage_Of.mono _ _
      | exact LeO.none _
      | refine LeO.ite ?_ ?_
      | refine LeO.bind ?_ (fun _ => ?_)
    · intro y0 y1 y2 y3 y4 y5 y6 y7 y8
      unfold sumplaw42_UsageDoes.l0
      repeat' first
      | (with_reducible exact ih0 _ _ _ _ _)
      | (with_reducible exact ih1 _ _ _ _ _ _ _ _ _)
      | (with_reducible exact ih2 _ _ _ _ _ _ _ _ _ _ _ _ _ _ _ _ _ _ _ _ _)
      | (with_reducible exact ih3 _ _ _ _ _ _ _ _ _ _ _ _ _ _ _ _ _ _ _ _ _ _ _ _ _ _ _)
      | (with_reducible exact ih4 _ _ _ _ _ _ _ _ _ _ _ _ _ _ _ _ _ _ _ _ _ _ _ _ _ _ _)
      | (with_reducible exact ih5 _ _ _ _ _ _ _ _ _ _ _ _ _)
      | (with_reducible exact sumplaw23_Few.mono _ _)
      | (with_reducible exact sumplaw42_awake.mono _)
      | (with_reducible exact usage_At.mono _ _ _)
      | (with_reducible exact usage_Of.mono _ _)
      | (with_reducible exact LeO.refl _)
      | (with_reducible exact LeO.none _)
      | (with_reducible refine LeO.ite ?_ ?_)
      | (with_reducible refine LeO.bind ?_ (fun _ => ?_))
      | exact ih0 _ _ _ _ _
      | exact ih1 _ _ _ _ _ _ _ _ _
      | exact ih2 _ _ _ _ _ _ _ _ _ _ _ _ _ _ _ _ _ _ _ _ _
      | exact ih3 _ _ _ _ _ _ _ _ _ _ _ _ _ _ _ _ _ _ _ _ _ _ _ _ _ _ _
      | exact ih4 _ _ _ _ _ _ _ _ _ _ _ _ _ _ _ _ _ _ _ _ _ _ _ _ _ _ _
      | exact ih5 _ _ _ _ _ _ _ _ _ _ _ _ _
      | exact sumplaw23_Few.mono _ _
      | exact sumplaw42_awake.mono _
      | exact usage_At.mono _ _ _
      | exact usage_Of.mono _ _
      | exact LeO.none _
      | refine LeO.ite ?_ ?_
      | refine LeO.bind ?_ (fun _ => ?_)
    · intro y0 y1 y2 y3 y4 y5 y6 y7 y8 y9 y10 y11 y12 y13 y14 y15 y16 y17 y18 y19 y20
      unfold sumplaw42_UsageDoes.l1
      repeat' first
      | (with_reducible exact ih0 _ _ _ _ _)
      | (with_reducible exact ih1 _ _ _ _ _ _ _ _ _)
      | (with_reducible exact ih2 _ _ _ _ _ _ _ _ _ _ _ _ _ _ _ _ _ _ _ _ _)
      | (with_reducible exact ih3 _ _ _ _ _ _ _ _ _ _ _ _ _ _ _ _ _ _ _ _ _ _ _ _ _ _ _)
      | (with_reducible exact ih4 _ _ _ _ _ _ _ _ _ _ _ _ _ _ _ _ _ _ _ _ _ _ _ _ _ _ _)
      | (with_reducible exact ih5 _ _ _ _ _ _ _ _ _ _ _ _ _)
      | (with_reducible exact sumplaw23_Few.mono _ _)
      | (with_reducible exact sumplaw42_awake.mono _)
      | (with_reducible exact usage_At.mono _ _ _)
      | (with_reducible exact usage_Of.mono _ _)
      | (with_reducible exact LeO.refl _)
      | (with_reducible exact LeO.none _)
      | (with_reducible refine LeO.ite ?_ ?_)
      | (with_reducible refine LeO.bind ?_ (fun _ => ?_))
      | exact ih0 _ _ _ _ _
      | exact ih1 _ _ _ _ _ _ _ _ _
      | exact ih2 _ _ _ _ _ _ _ _ _ _ _ _ _ _ _ _ _ _ _ _ _
      | exact ih3 _ _ _ _ _ _ _ _ _ _ _ _ _ _ _ _ _ _ _ _ _ _ _ _ _ _ _
      | exact ih4 _ _ _ _ _ _ _ _ _ _ _ _ _ _ _ _ _ _ _ _ _ _ _ _ _ _ _
      | exact ih5 _ _ _ _ _ _ _ _ _ _ _ _ _
      | exact sumplaw23_Few.mono _ _
      | exact sumplaw42_awake.mono _
      | exact usage_At.mono _ _ _
      | exact usage_Of.mono _ _
      | exact LeO.none _
      | refine LeO.ite ?_ ?_
      | refine LeO.bind ?_ (fun _ => ?_)
    · intro y0 y1 y2 y3 y4 y5 y6 y7 y8 y9 y10 y11 y12 y13 y14 y15 y16 y17 y18 y19 y20 y21 y22 y23 y24 y25 y26
      unfold sumplaw42_UsageDoes.j3
      repeat' first
      | (with_reducible exact ih0 _ _ _ _ _)
      | (with_reducible exact ih1 _ _ _ _ _ _ _ _ _)
      | (with_reducible exact ih2 _ _ _ _ _ _ _ _ _ _ _ _ _ _ _ _ _ _ _ _ _)
      | (with_reducible exact ih3 _ _ _ _ _ _ _ _ _ _ _ _ _ _ _ _ _ _ _ _ _ _ _ _ _ _ _)
      | (with_reducible exact ih4 _ _ _ _ _ _ _ _ _ _ _ _ _ _ _ _ _ _ _ _ _ _ _ _ _ _ _)
      | (with_reducible exact ih5 _ _ _ _ _ _ _ _ _ _ _ _ _)
      | (with_reducible exact sumplaw23_Few.mono _ _)
      | (with_reducible exact sumplaw42_awake.mono _)
      | (with_reducible exact usage_At.mono _ _ _)
      | (with_reducible exact usage_Of.mono _ _)
      | (with_reducible exact LeO.refl _)
      | (with_reducible exact LeO.none _)
      | (with_reducible refine LeO.ite ?_ ?_)
      | (with_reducible refine LeO.bind ?_ (fun _ => ?_))
      | exact ih0 _ _ _ _ _
      | exact ih1 _ _ _ _ _ _ _ _ _
      | exact ih2 _ _ _ _ _ _ _ _ _ _ _ _ _ _ _ _ _ _ _ _ _
      | exact ih3 _ _ _ _ _ _ _ _ _ _ _ _ _ _ _ _ _ _ _ _ _ _ _ _ _ _ _
      | exact ih4 _ _ _ _ _ _ _ _ _ _ _ _ _ _ _ _ _ _ _ _ _ _ _ _ _ _ _
      | exact ih5 _ _ _ _ _ _ _ _ _ _ _ _ _
      | exact sumplaw23_Few.mono _ _
      | exact sumplaw42_awake.mono _
      | exact usage_At.mono _ _ _
      | exact usage_Of.mono _ _
      | exact LeO.none _
      | refine LeO.ite ?_ ?_
      | refine LeO.bind ?_ (fun _ => ?_)
    · intro y0 y1 y2 y3 y4 y5 y6 y7 y8 y9 y10 y11 y12 y13 y14 y15 y16 y17 y18 y19 y20 y21 y22 y23 y24 y25 y26
      unfold sumplaw42_UsageDoes.j4
      repeat' first
      | (with_reducible exact ih0 _ _ _ _ _)
      | (with_reducible exact ih1 _ _ _ _ _ _ _ _ _)
      | (with_reducible exact ih2 _ _ _ _ _ _ _ _ _ _ _ _ _ _ _ _ _ _ _ _ _)
      | (with_reducible exact ih3 _ _ _ _ _ _ _ _ _ _ _ _ _ _ _ _ _ _ _ _ _ _ _ _ _ _ _)
      | (with_reducible exact ih4 _ _ _ _ _ _ _ _ _ _ _ _ _ _ _ _ _ _ _ _ _ _ _ _ _ _ _)
      | (with_reducible exact ih5 _ _ _ _ _ _ _ _ _ _ _ _ _)
      | (with_reducible exact sumplaw23_Few.mono _ _)
      | (with_reducible exact sumplaw42_awake.mono _)
      | (with_reducible exact usage_At.mono _ _ _)
      | (with_reducible exact usage_Of.mono _ _)
      | (with_reducible exact LeO.refl _)
      | (with_reducible exact LeO.none _)
      | (with_reducible refine LeO.ite ?_ ?_)
      | (with_reducible refine LeO.bind ?_ (fun _ => ?_))
      | exact ih0 _ _ _ _ _
      | exact ih1 _ _ _ _ _ _ _ _ _
      | exact ih2 _ _ _ _ _ _ _ _ _ _ _ _ _ _ _ _ _ _ _ _ _
      | exact ih3 _ _ _ _ _ _ _ _ _ _ _ _ _ _ _ _ _ _ _ _ _ _ _ _ _ _ _
      | exact ih4 _ _ _ _ _ _ _ _ _ _ _ _ _ _ _ _ _ _ _ _ _ _ _ _ _ _ _
      | exact ih5 _ _ _ _ _ _ _ _ _ _ _ _ _
      | exact sumplaw23_Few.mono _ _
      | exact sumplaw42_awake.mono _
      | exact usage_At.mono _ _ _
      | exact usage_Of.mono _ _
      | exact LeO.none _
      | refine LeO.ite ?_ ?_
      | refine LeO.bind ?_ (fun _ => ?_)
    · intro y0 y1 y2 y3 y4 y5 y6 y7 y8 y9 y10 y11 y12
      unfold sumplaw42_UsageDoes.l2
      repeat' first
      | (with_reducible exact ih0 _ _ _ _ _)
      | (with_reducible exact ih1 _ _ _ _ _ _ _ _ _)
      | (with_reducible exact ih2 _ _ _ _ _ _ _ _ _ _ _ _ _ _ _ _ _ _ _ _ _)
      | (with_reducible exact ih3 _ _ _ _ _ _ _ _ _ _ _ _ _ _ _ _ _ _ _ _ _ _ _ _ _ _ _)
      | (with_reducible exact ih4 _ _ _ _ _ _ _ _ _ _ _ _ _ _ _ _ _ _ _ _ _ _ _ _ _ _ _)
      | (with_reducible exact ih5 _ _ _ _ _ _ _ _ _ _ _ _ _)
      | (with_reducible exact sumplaw23_Few.mono _ _)
      | (with_reducible exact sumplaw42_awake.mono _)
      | (with_reducible exact usage_At.mono _ _ _)
      | (with_reducible exact usage_Of.mono _ _)
      | (with_reducible exact LeO.refl _)
      | (with_reducible exact LeO.none _)
      | (with_reducible refine LeO.ite ?_ ?_)
      | (with_reducible refine LeO.bind ?_ (fun _ => ?_))
      | exact ih0 _ _ _ _ _
      | exact ih1 _ _ _ _ _ _ _ _ _
      | exact ih2 _ _ _ _ _ _ _ _ _ _ _ _ _ _ _ _ _ _ _ _ _
      | exact ih3 _ _ _ _ _ _ _ _ _ _ _ _ _ _ _ _ _ _ _ _ _ _ _ _ _ _ _
      | exact ih4 _ _ _ _ _ _ _ _ _ _ _ _ _ _ _ _ _ _ _ _ _ _ _ _ _ _ _
      | exact ih5 _ _ _ _ _ _ _ _ _ _ _ _ _
      | exact sumplaw23_Few.mono _ _
      | exact sumplaw42_awake.mono _
      | exact usage_At.mono _ _ _
      | exact usage_Of.mono _ _
      | exact LeO.none _
      | refine LeO.ite ?_ ?_
      | refine LeO.bind ?_ (fun _ => ?_)
theorem sumplaw42_UsageDoes.mono : ∀ a0 a1 a2 a3 k, LeO (sumplaw42_UsageDoes.f k a0 a1 a2 a3) (sumplaw42_UsageDoes.f (k + 1) a0 a1 a2 a3) := by
  intro a0 a1 a2 a3 k
  obtain ⟨ih0, ih1, ih2, ih3, ih4, ih5⟩ := sumplaw42_UsageDoes.mono_l k
  unfold sumplaw42_UsageDoes.f
  repeat' first
      | (with_reducible exact ih0 _ _ _ _ _)
      | (with_reducible exact ih1 _ _ _ _ _ _ _ _ _)
      | (with_reducible exact ih2 _ _ _ _ _ _ _ _ _ _ _ _ _ _ _ _ _ _ _ _ _)
      | (with_reducible exact ih3 _ _ _ _ _ _ _ _ _ _ _ _ _ _ _ _ _ _ _ _ _ _ _ _ _ _ _)
      | (with_reducible exact ih4 _ _ _ _ _ _ _ _ _ _ _ _ _ _ _ _ _ _ _ _ _ _ _ _ _ _ _)
      | (with_reducible exact ih5 _ _ _ _ _ _ _ _ _ _ _ _ _)
      | (with_reducible exact sumplaw23_Few.mono _ _)
      | (with_reducible exact sumplaw42_awake.mono _)
      | (with_reducible exact usage_At.mono _ _ _)
      | (with_reducible exact usage_Of.mono _ _)
      | (with_reducible exact LeO.refl _)
      | (with_reducible exact LeO.none _)
      | (with_reducible refine LeO.ite ?_ ?_)
      | (with_reducible refine LeO.bind ?_ (fun _ => ?_))
      | exact ih0 _ _ _ _ _
      | exact ih1 _ _ _ _ _ _ _ _ _
      | exact ih2 _ _ _ _ _ _ _ _ _ _ _ _ _ _ _ _ _ _ _ _ _
      | exact ih3 _ _ _ _ _ _ _ _ _ _ _ _ _ _ _ _ _ _ _ _ _ _ _ _ _ _ _
      | exact ih4 _ _ _ _ _ _ _ _ _ _ _ _ _ _ _ _ _ _ _ _ _ _ _ _ _ _ _
      | exact ih5 _ _ _ _ _ _ _ _ _ _ _ _ _
      | exact sumplaw23_Few.mono _ _
      | exact sumplaw42_awake.mono _
      | exact usage_At.mono _ _ _
      | exact usage_Of.mono _ _
      | exact LeO.none _
      | refine LeO.ite ?_ ?_
      | refine LeO.bind ?_ (fun _ => ?_)
end Go.Proofs.Ytbdehbaiihlacaa.PUsageDoes
