-- Written by a program of this session: the printer, with contracts put in that were proved by hand. Lean checks it.
import Derived.Test.YtbbpjjbgdemmpaaPCallChecksx0
import Derived.Test.YtbbpjjbgdemmpaaPCallChecksx1
import Derived.Test.YtbbpjjbgdemmpaaPCallChecksx2
import Derived.Test.YtbbpjjbgdemmpaaPCallChecksx3
namespace Go.Proofs.Ytbbpjjbgdemmpaa.PCallChecks
open Go.RowKit Go.Proofs.YtbbpjjbgdemmpaaW.PrintWords Go.Proofs.YtbbpjjbgdemmpaaW.PrintLast Go.Proofs.YtbbpjjbgdemmpaaW.PrintMore
attribute [local go_sem] max2_int min2_int max_two min_two max_three min_three max_four min_four   -- for this text's walks alone
set_option linter.unusedVariables false
set_option linter.unusedSimpArgs false

/-! ### sumplaw25_CallChecks: function 12 -/
mutual
def sumplaw25_CallChecks.j0 : Nat → Int → Int → Bool → Int → Int → Int → Int → Int → ByteArray → ByteArray → List Int → Int → Int → Int → Int → Int → ByteArray → ByteArray → List Int → Option (Bool)
 | 0, _, _, _, _, _, _, _, _, _, _, _, _, _, _, _, _, _, _, _ => none
 | k + 1, x2, x3, x20, x129000, x129001, x129002, x129003, x129004, x129005, x129006, x129007, x130000, x130001, x130002, x130003, x130004, x130005, x130006, x130007 => if x20 = true then (some true) else (if x129000 = 4 then (sumplaw25_CallChecks.j1 k x2 x3 0 (decide ((x129007.length : Int) > 0)) x129000 x129001 x129002 x129003 x129004 x129005 x129006 x129007 x130000 x130001 x130002 x130003 x130004 x130005 x130006 x130007) else (if x129000 = 6 then (sumplaw25_CallChecks.j1 k x2 x3 0 (decide ((x129007.length : Int) > 0)) x129000 x129001 x129002 x129003 x129004 x129005 x129006 x129007 x130000 x130001 x130002 x130003 x130004 x130005 x130006 x130007) else (sumplaw25_CallChecks.j1 k x2 x3 0 false x129000 x129001 x129002 x129003 x129004 x129005 x129006 x129007 x130000 x130001 x130002 x130003 x130004 x130005 x130006 x130007)))
def sumplaw25_CallChecks.j1 : Nat → Int → Int → Int → Bool → Int → Int → Int → Int → Int → ByteArray → ByteArray → List Int → Int → Int → Int → Int → Int → ByteArray → ByteArray → List Int → Option (Bool)
 | 0, _, _, _, _, _, _, _, _, _, _, _, _, _, _, _, _, _, _, _, _ => none
 | k + 1, x2, x3, x9, x34, x129000, x129001, x129002, x129003, x129004, x129005, x129006, x129007, x130000, x130001, x130002, x130003, x130004, x130005, x130006, x130007 => if x34 = true then (sumplaw25_CallChecks.j2 k x2 x3 (wrap64 ((wrap64 (Int.tdiv (wrap64 ((x129007.length : Int) + 255)) 256)) + 2)) x129000 x129001 x129002 x129003 x129004 x129005 x129006 x129007 x130000 x130001 x130002 x130003 x130004 x130005 x130006 x130007) else (sumplaw25_CallChecks.j2 k x2 x3 x9 x129000 x129001 x129002 x129003 x129004 x129005 x129006 x129007 x130000 x130001 x130002 x130003 x130004 x130005 x130006 x130007)
def sumplaw25_CallChecks.j2 : Nat → Int → Int → Int → Int → Int → Int → Int → Int → ByteArray → ByteArray → List Int → Int → Int → Int → Int → Int → ByteArray → ByteArray → List Int → Option (Bool)
 | 0, _, _, _, _, _, _, _, _, _, _, _, _, _, _, _, _, _, _, _ => none
 | k + 1, x2, x3, x9, x129000, x129001, x129002, x129003, x129004, x129005, x129006, x129007, x130000, x130001, x130002, x130003, x130004, x130005, x130006, x130007 => if x129000 = 15 then (sumplaw25_CallChecks.j3 k x2 x3 1 x129000 x129001 x129002 x129003 x129004 x129005 x129006 x129007 x130000 x130001 x130002 x130003 x130004 x130005 x130006 x130007) else (sumplaw25_CallChecks.j3 k x2 x3 x9 x129000 x129001 x129002 x129003 x129004 x129005 x129006 x129007 x130000 x130001 x130002 x130003 x130004 x130005 x130006 x130007)
def sumplaw25_CallChecks.j3 : Nat → Int → Int → Int → Int → Int → Int → Int → Int → ByteArray → ByteArray → List Int → Int → Int → Int → Int → Int → ByteArray → ByteArray → List Int → Option (Bool)
 | 0, _, _, _, _, _, _, _, _, _, _, _, _, _, _, _, _, _, _, _ => none
 | k + 1, x2, x3, x9, x129000, x129001, x129002, x129003, x129004, x129005, x129006, x129007, x130000, x130001, x130002, x130003, x130004, x130005, x130006, x130007 => if x3 = 1 then (sumplaw25_CallChecks.j4 k x2 x3 x9 false true x129000 x129001 x129002 x129003 x129004 x129005 x129006 x129007 x130000 x130001 x130002 x130003 x130004 x130005 x130006 x130007) else (if x3 = 2 then (sumplaw25_CallChecks.j4 k x2 x3 x9 false true x129000 x129001 x129002 x129003 x129004 x129005 x129006 x129007 x130000 x130001 x130002 x130003 x130004 x130005 x130006 x130007) else (if x3 = 4 then (sumplaw25_CallChecks.j4 k x2 x3 x9 false true x129000 x129001 x129002 x129003 x129004 x129005 x129006 x129007 x130000 x130001 x130002 x130003 x130004 x130005 x130006 x130007) else (if x3 = 8 then (sumplaw25_CallChecks.j4 k x2 x3 x9 false true x129000 x129001 x129002 x129003 x129004 x129005 x129006 x129007 x130000 x130001 x130002 x130003 x130004 x130005 x130006 x130007) else (sumplaw25_CallChecks.j4 k x2 x3 x9 false (x3 == 16) x129000 x129001 x129002 x129003 x129004 x129005 x129006 x129007 x130000 x130001 x130002 x130003 x130004 x130005 x130006 x130007))))
def sumplaw25_CallChecks.j4 : Nat → Int → Int → Int → Bool → Bool → Int → Int → Int → Int → Int → ByteArray → ByteArray → List Int → Int → Int → Int → Int → Int → ByteArray → ByteArray → List Int → Option (Bool)
 | 0, _, _, _, _, _, _, _, _, _, _, _, _, _, _, _, _, _, _, _, _, _ => none
 | k + 1, x2, x3, x9, x10, x61, x129000, x129001, x129002, x129003, x129004, x129005, x129006, x129007, x130000, x130001, x130002, x130003, x130004, x130005, x130006, x130007 => if x61 = true then (if x129000 = 1 then (sumplaw25_CallChecks.j5 k x2 x3 x9 ((Go.bits .and .i64 x129002 x3) != 0) x129000 x129001 x129002 x129003 x129004 x129005 x129006 x129007 x130000 x130001 x130002 x130003 x130004 x130005 x130006 x130007) else (sumplaw25_CallChecks.j5 k x2 x3 x9 false x129000 x129001 x129002 x129003 x129004 x129005 x129006 x129007 x130000 x130001 x130002 x130003 x130004 x130005 x130006 x130007)) else (sumplaw25_CallChecks.j5 k x2 x3 x9 x10 x129000 x129001 x129002 x129003 x129004 x129005 x129006 x129007 x130000 x130001 x130002 x130003 x130004 x130005 x130006 x130007)
def sumplaw25_CallChecks.j5 : Nat → Int → Int → Int → Bool → Int → Int → Int → Int → Int → ByteArray → ByteArray → List Int → Int → Int → Int → Int → Int → ByteArray → ByteArray → List Int → Option (Bool)
 | 0, _, _, _, _, _, _, _, _, _, _, _, _, _, _, _, _, _, _, _, _ => none
 | k + 1, x2, x3, x9, x10, x129000, x129001, x129002, x129003, x129004, x129005, x129006, x129007, x130000, x130001, x130002, x130003, x130004, x130005, x130006, x130007 => (call_Check.f x129000 x129001 x129002 x129003 x129004 x129005 x129006 x129007).bind fun t133 => ((sumpref27_Check.f k x129000 x129001 x129002 x129003 x129004 x129005 x129006 x129007).bind fun t134 => (if t133 = t134 then ((call_Word.f x2).bind fun t135 => ((sumpref27_Word.f x2).bind fun t136 => (if t135.toList = t136.toList then ((call_Same.f x129000 x129001 x129002 x129003 x129004 x129005 x129006 x129007 x130000 x130001 x130002 x130003 x130004 x130005 x130006 x130007).bind fun t137 => ((sumpref27_SameCall.f x129000 x129001 x129002 x129003 x129004 x129005 x129006 x129007 x130000 x130001 x130002 x130003 x130004 x130005 x130006 x130007).bind fun t138 => (if (t137 == t138) = true then ((call_Most.f k x129000 x129001 x129002 x129003 x129004 x129005 x129006 x129007).bind fun t139 => (if t139 = x9 then ((call_Fds.f x129000 x129001 x129002 x129003 x129004 x129005 x129006 x129007).bind fun t140 => (if x129000 ≥ 2 then (if (t140 == (decide (x129000 ≤ 8))) = true then ((call_Writes.f x129000 x129001 x129002 x129003 x129004 x129005 x129006 x129007).bind fun t141 => (if x129000 = 4 then (if (t141 == true) = true then ((call_Has.f x129000 x129001 x129002 x129003 x129004 x129005 x129006 x129007 x3).bind fun t142 => (some (t142 == x10))) else (some false)) else (if (t141 == (x129000 == 6)) = true then ((call_Has.f x129000 x129001 x129002 x129003 x129004 x129005 x129006 x129007 x3).bind fun t143 => (some (t143 == x10))) else (some false)))) else (some false)) else (if (t140 == false) = true then ((call_Writes.f x129000 x129001 x129002 x129003 x129004 x129005 x129006 x129007).bind fun t144 => (if (t144 == (x129000 == 6)) = true then ((call_Has.f x129000 x129001 x129002 x129003 x129004 x129005 x129006 x129007 x3).bind fun t145 => (some (t145 == x10))) else (some false))) else (some false)))) else (some false))) else (some false)))) else (some false)))) else (some false)))
end
def sumplaw25_CallChecks.f (k : Nat) (a0_0 : Int) (a0_1 : Int) (a0_2 : Int) (a0_3 : Int) (a0_4 : Int) (a0_5 : ByteArray) (a0_6 : ByteArray) (l0_7 : List Int) (a1_0 : Int) (a1_1 : Int) (a1_2 : Int) (a1_3 : Int) (a1_4 : Int) (a1_5 : ByteArray) (a1_6 : ByteArray) (l1_7 : List Int) (a2 : Int) (a3 : Int) : Option (Bool) := (sumplaw25_awake.f k).bind fun t130 => (if t130 = true then ((sumplaw25_Few.f a0_0 a0_1 a0_2 a0_3 a0_4 a0_5 a0_6 l0_7).bind fun t131 => (if t131 = true then ((sumplaw25_Few.f a1_0 a1_1 a1_2 a1_3 a1_4 a1_5 a1_6 l1_7).bind fun t132 => (sumplaw25_CallChecks.j0 k a2 a3 (!t132) a0_0 a0_1 a0_2 a0_3 a0_4 a0_5 a0_6 l0_7 a1_0 a1_1 a1_2 a1_3 a1_4 a1_5 a1_6 l1_7)) else (sumplaw25_CallChecks.j0 k a2 a3 true a0_0 a0_1 a0_2 a0_3 a0_4 a0_5 a0_6 l0_7 a1_0 a1_1 a1_2 a1_3 a1_4 a1_5 a1_6 l1_7))) else (some false))
theorem sumplaw25_CallChecks.mono_l : ∀ k, (∀ y0 y1 y2 y3 y4 y5 y6 y7 y8 y9 y10 y11 y12 y13 y14 y15 y16 y17 y18, LeO (sumplaw25_CallChecks.j0 k y0 y1 y2 y3 y4 y5 y6 y7 y8 y9 y10 y11 y12 y13 y14 y15 y16 y17 y18) (sumplaw25_CallChecks.j0 (k + 1) y0 y1 y2 y3 y4 y5 y6 y7 y8 y9 y10 y11 y12 y13 y14 y15 y16 y17 y18)) ∧ (∀ y0 y1 y2 y3 y4 y5 y6 y7 y8 y9 y10 y11 y12 y13 y14 y15 y16 y17 y18 y19, LeO (sumplaw25_CallChecks.j1 k y0 y1 y2 y3 y4 y5 y6 y7 y8 y9 y10 y11 y12 y13 y14 y15 y16 y17 y18 y19) (sumplaw25_CallChecks.j1 (k + 1) y0 y1 y2 y3 y4 y5 y6 y7 y8 y9 y10 y11 y12 y13 y14 y15 y16 y17 y18 y19)) ∧ (∀ y0 y1 y2 y3 y4 y5 y6 y7 y8 y9 y10 y11 y12 y13 y14 y15 y16 y17 y18, LeO (sumplaw25_CallChecks.j2 k y0 y1 y2 y3 y4 y5 y6 y7 y8 y9 y10 y11 y12 y13 y14 y15 y16 y17 y18) (sumplaw25_CallChecks.j2 (k + 1) y0 y1 y2 y3 y4 y5 y6 y7 y8 y9 y10 y11 y12 y13 y14 y15 y16 y17 y18)) ∧ (∀ y0 y1 y2 y3 y4 y5 y6 y7 y8 y9 y10 y11 y12 y13 y14 y15 y16 y17 y18, LeO (sumplaw25_CallChecks.j3 k y0 y1 y2 y3 y4 y5 y6 y7 y8 y9 y10 y11 y12 y13 y14 y15 y16 y17 y18) (sumplaw25_CallChecks.j3 (k + 1) y0 y1 y2 y3 y4 y5 y6 y7 y8 y9 y10 y11 y12 y13 y14 y15 y16 y17 y18)) ∧ (∀ y0 y1 y2 y3 y4 y5 y6 y7 y8 y9 y10 y11 y12 y13 y14 y15 y16 y17 y18 y19 y20, LeO (sumplaw25_CallChecks.j4 k y0 y1 y2 y3 y4 y5 y6 y7 y8 y9 y10 y11 y12 y13 y14 y15 y16 y17 y18 y19 y20) (sumplaw25_CallChecks.j4 (k + 1) y0 y1 y2 y3 y4 y5 y6 y7 y8 y9 y10 y11 y12 y13 y14 y15 y16 y17 y18 y19 y20)) ∧ (∀ y0 y1 y2 y3 y4 y5 y6 y7 y8 y9 y10 y11 y12 y13 y14 y15 y16 y17 y18 y19, LeO (sumplaw25_CallChecks.j5 k y0 y1 y2 y3 y4 y5 y6 y7 y8 y9 y10 y11 y12 y13 y14 y15 y16 y17 y18 y19) (sumplaw25_CallChecks.j5 (k + 1) y0 y1 y2 y3 y4 y5 y6 y7 y8 y9 y10 y11 y12 y13 y14 y15 y16 y17 y18 y19))
 | 0 => ⟨fun _ _ _ _ _ _ _ _ _ _ _ _ _ _ _ _ _ _ _ r h => by simp [sumplaw25_CallChecks.j0] at h, fun _ _ _ _ _ _ _ _ _ _ _ _ _ _ _ _ _ _ _ _ r h => by simp [sumplaw25_CallChecks.j1] at h, fun _ _ _ _ _ _ _ _ _ _ _ _ _ _ _ _ _ _ _ r h => by simp [sumplaw25_CallChecks.j2] at h, fun _ _ _ _ _ _ _ _ _ _ _ _ _ _ _ _ _ _ _ r h => by simp [sumplaw25_CallChecks.j3] at h, fun _ _ _ _ _ _ _ _ _ _ _ _ _ _ _ _ _ _ _ _ _ r h => by simp [sumplaw25_CallChecks.j4] at h, fun _ _ _ _ _ _ _ _ _ _ _ _ _ _ _ _ _ _ _ _ r h => by simp [sumplaw25_CallChecks.j5] at h⟩
 | k + 1 => by
  obtain ⟨ih0, ih1, ih2, ih3, ih4, ih5⟩ := sumplaw25_CallChecks.mono_l k
  refine ⟨?_, ?_, ?_, ?_, ?_, ?_⟩
  ·intro y0 y1 y2 y3 y4 y5 y6 y7 y8 y9 y10 y11 y12 y13 y14 y15 y16 y17 y18
   unfold sumplaw25_CallChecks.j0
   repeat' first
   | (with_reducible exact ih0 _ _ _ _ _ _ _ _ _ _ _ _ _ _ _ _ _ _ _)
   | (with_reducible exact ih1 _ _ _ _ _ _ _ _ _ _ _ _ _ _ _ _ _ _ _ _)
   | (with_reducible exact ih2 _ _ _ _ _ _ _ _ _ _ _ _ _ _ _ _ _ _ _)
   | (with_reducible exact ih3 _ _ _ _ _ _ _ _ _ _ _ _ _ _ _ _ _ _ _)
   | (with_reducible exact ih4 _ _ _ _ _ _ _ _ _ _ _ _ _ _ _ _ _ _ _ _ _)
   | (with_reducible exact ih5 _ _ _ _ _ _ _ _ _ _ _ _ _ _ _ _ _ _ _ _)
   | (with_reducible exact call_Most.mono _ _ _ _ _ _ _ _ _)
   | (with_reducible exact sumplaw25_awake.mono _)
   | (with_reducible exact sumpref27_Check.mono _ _ _ _ _ _ _ _ _)
   | (with_reducible exact LeO.refl _)
   | (with_reducible exact LeO.none _)
   | (with_reducible refine LeO.ite ?_ ?_)
   | (with_reducible refine LeO.bind ?_ (fun _ => ?_))
   | exact ih0 _ _ _ _ _ _ _ _ _ _ _ _ _ _ _ _ _ _ _
   | exact ih1 _ _ _ _ _ _ _ _ _ _ _ _ _ _ _ _ _ _ _ _
   | exact ih2 _ _ _ _ _ _ _ _ _ _ _ _ _ _ _ _ _ _ _
   | exact ih3 _ _ _ _ _ _ _ _ _ _ _ _ _ _ _ _ _ _ _
   | exact ih4 _ _ _ _ _ _ _ _ _ _ _ _ _ _ _ _ _ _ _ _ _
   | exact ih5 _ _ _ _ _ _ _ _ _ _ _ _ _ _ _ _ _ _ _ _
   | exact call_Most.mono _ _ _ _ _ _ _ _ _
   | exact sumplaw25_awake.mono _
   | exact sumpref27_Check.mono _ _ _ _ _ _ _ _ _
   | exact LeO.none _
   | refine LeO.ite ?_ ?_
   | refine LeO.bind ?_ (fun _ => ?_)
  ·intro y0 y1 y2 y3 y4 y5 y6 y7 y8 y9 y10 y11 y12 y13 y14 y15 y16 y17 y18 y19
   unfold sumplaw25_CallChecks.j1
   repeat' first
   | (with_reducible exact ih0 _ _ _ _ _ _ _ _ _ _ _ _ _ _ _ _ _ _ _)
   | (with_reducible exact ih1 _ _ _ _ _ _ _ _ _ _ _ _ _ _ _ _ _ _ _ _)
   | (with_reducible exact ih2 _ _ _ _ _ _ _ _ _ _ _ _ _ _ _ _ _ _ _)
   | (with_reducible exact ih3 _ _ _ _ _ _ _ _ _ _ _ _ _ _ _ _ _ _ _)
   | (with_reducible exact ih4 _ _ _ _ _ _ _ _ _ _ _ _ _ _ _ _ _ _ _ _ _)
   | (with_reducible exact ih5 _ _ _ _ _ _ _ _ _ _ _ _ _ _ _ _ _ _ _ _)
   | (with_reducible exact call_Most.mono _ _ _ _ _ _ _ _ _)
   | (with_reducible exact sumplaw25_awake.mono _)
   | (with_reducible exact sumpref27_Check.mono _ _ _ _ _ _ _ _ _)
   | (with_reducible exact LeO.refl _)
   | (with_reducible exact LeO.none _)
   | (with_reducible refine LeO.ite ?_ ?_)
   | (with_reducible refine LeO.bind ?_ (fun _ => ?_))
   | exact ih0 _ _ _ _ _ _ _ _ _ _ _ _ _ _ _ _ _ _ _
   | exact ih1 _ _ _ _ _ _ _ _ _ _ _ _ _ _ _ _ _ _ _ _
   | exact ih2 _ _ _ _ _ _ _ _ _ _ _ _ _ _ _ _ _ _ _
   | exact ih3 _ _ _ _ _ _ _ _ _ _ _ _ _ _ _ _ _ _ _
   | exact ih4 _ _ _ _ _ _ _ _ _ _ _ _ _ _ _ _ _ _ _ _ _
   | exact ih5 _ _ _ _ _ _ _ _ _ _ _ _ _ _ _ _ _ _ _ _
   | exact call_Most.mono _ _ _ _ _ _ _ _ _
   | exact sumplaw25_awake.mono _
   | exact sumpref27_Check.mono _ _ _ _ _ _ _ _ _
   | exact LeO.none _
   | refine LeO.ite ?_ ?_
   | refine LeO.bind ?_ (fun _ => ?_)
  ·intro y0 y1 y2 y3 y4 y5 y6 y7 y8 y9 y10 y11 y12 y13 y14 y15 y16 y17 y18
   unfold sumplaw25_CallChecks.j2
   repeat' first
   | (with_reducible exact ih0 _ _ _ _ _ _ _ _ _ _ _ _ _ _ _ _ _ _ _)
   | (with_reducible exact ih1 _ _ _ _ _ _ _ _ _ _ _ _ _ _ _ _ _ _ _ _)
   | (with_reducible exact ih2 _ _ _ _ _ _ _ _ _ _ _ _ _ _ _ _ _ _ _)
   | (with_reducible exact ih3 _ _ _ _ _ _ _ _ _ _ _ _ _ _ _ _ _ _ _)
   | (with_reducible exact ih4 _ _ _ _ _ _ _ _ _ _ _ _ _ _ _ _ _ _ _ _ _)
   | (with_reducible exact ih5 _ _ _ _ _ _ _ _ _ _ _ _ _ _ _ _ _ _ _ _)
   | (with_reducible exact call_Most.mono _ _ _ _ _ _ _ _ _)
   | (with_reducible exact sumplaw25_awake.mono _)
   | (with_reducible exact sumpref27_Check.mono _ _ _ _ _ _ _ _ _)
   | (with_reducible exact LeO.refl _)
   | (with_reducible exact LeO.none _)
   | (with_reducible refine LeO.ite ?_ ?_)
   | (with_reducible refine LeO.bind ?_ (fun _ => ?_))
   | exact ih0 _ _ _ _ _ _ _ _ _ _ _ _ _ _ _ _ _ _ _
   | exact ih1 _ _ _ _ _ _ _ _ _ _ _ _ _ _ _ _ _ _ _ _
   | exact ih2 _ _ _ _ _ _ _ _ _ _ _ _ _ _ _ _ _ _ _
   | exact ih3 _ _ _ _ _ _ _ _ _ _ _ _ _ _ _ _ _ _ _
   | exact ih4 _ _ _ _ _ _ _ _ _ _ _ _ _ _ _ _ _ _ _ _ _
   | exact ih5 _ _ _ _ _ _ _ _ _ _ _ _ _ _ _ _ _ _ _ _
   | exact call_Most.mono _ _ _ _ _ _ _ _ _
   | exact sumplaw25_awake.mono _
   | exact sumpref27_Check.mono _ _ _ _ _ _ _ _ _
   | exact LeO.none _
   | refine LeO.ite ?_ ?_
   | refine LeO.bind ?_ (fun _ => ?_)
  ·intro y0 y1 y2 y3 y4 y5 y6 y7 y8 y9 y10 y11 y12 y13 y14 y15 y16 y17 y18
   unfold sumplaw25_CallChecks.j3
   repeat' first
   | (with_reducible exact ih0 _ _ _ _ _ _ _ _ _ _ _ _ _ _ _ _ _ _ _)
   | (with_reducible exact ih1 _ _ _ _ _ _ _ _ _ _ _ _ _ _ _ _ _ _ _ _)
   | (with_reducible exact ih2 _ _ _ _ _ _ _ _ _ _ _ _ _ _ _ _ _ _ _)
   | (with_reducible exact ih3 _ _ _ _ _ _ _ _ _ _ _ _ _ _ _ _ _ _ _)
   | (with_reducible exact ih4 _ _ _ _ _ _ _ _ _ _ _ _ _ _ _ _ _ _ _ _ _)
   | (with_reducible exact ih5 _ _ _ _ _ _ _ _ _ _ _ _ _ _ _ _ _ _ _ _)
   | (with_reducible exact call_Most.mono _ _ _ _ _ _ _ _ _)
   | (with_reducible exact sumplaw25_awake.mono _)
   | (with_reducible exact sumpref27_Check.mono _ _ _ _ _ _ _ _ _)
   | (with_reducible exact LeO.refl _)
   | (with_reducible exact LeO.none _)
   | (with_reducible refine LeO.ite ?_ ?_)
   | (with_reducible refine LeO.bind ?_ (fun _ => ?_))
   | exact ih0 _ _ _ _ _ _ _ _ _ _ _ _ _ _ _ _ _ _ _
   | exact ih1 _ _ _ _ _ _ _ _ _ _ _ _ _ _ _ _ _ _ _ _
   | exact ih2 _ _ _ _ _ _ _ _ _ _ _ _ _ _ _ _ _ _ _
   | exact ih3 _ _ _ _ _ _ _ _ _ _ _ _ _ _ _ _ _ _ _
   | exact ih4 _ _ _ _ _ _ _ _ _ _ _ _ _ _ _ _ _ _ _ _ _
   | exact ih5 _ _ _ _ _ _ _ _ _ _ _ _ _ _ _ _ _ _ _ _
   | exact call_Most.mono _ _ _ _ _ _ _ _ _
   | exact sumplaw25_awake.mono _
   | exact sumpref27_Check.mono _ _ _ _ _ _ _ _ _
   | exact LeO.none _
   | refine LeO.ite ?_ ?_
   | refine LeO.bind ?_ (fun _ => ?_)
  ·intro y0 y1 y2 y3 y4 y5 y6 y7 y8 y9 y10 y11 y12 y13 y14 y15 y16 y17 y18 y19 y20
   unfold sumplaw25_CallChecks.j4
   repeat' first
   | (with_reducible exact ih0 _ _ _ _ _ _ _ _ _ _ _ _ _ _ _ _ _ _ _)
   | (with_reducible exact ih1 _ _ _ _ _ _ _ _ _ _ _ _ _ _ _ _ _ _ _ _)
   | (with_reducible exact ih2 _ _ _ _ _ _ _ _ _ _ _ _ _ _ _ _ _ _ _)
   | (with_reducible exact ih3 _ _ _ _ _ _ _ _ _ _ _ _ _ _ _ _ _ _ _)
   | (with_reducible exact ih4 _ _ _ _ _ _ _ _ _ _ _ _ _ _ _ _ _ _ _ _ _)
   | (with_reducible exact ih5 _ _ _ _ _ _ _ _ _ _ _ _ _ _ _ _ _ _ _ _)
   | (with_reducible exact call_Most.mono _ _ _ _ _ _ _ _ _)
   | (with_reducible exact sumplaw25_awake.mono _)
   | (with_reducible exact sumpref27_Check.mono _ _ _ _ _ _ _ _ _)
   | (with_reducible exact LeO.refl _)
   | (with_reducible exact LeO.none _)
   | (with_reducible refine LeO.ite ?_ ?_)
   | (with_reducible refine LeO.bind ?_ (fun _ => ?_))
   | exact ih0 _ _ _ _ _ _ _ _ _ _ _ _ _ _ _ _ _ _ _
   | exact ih1 _ _ _ _ _ _ _ _ _ _ _ _ _ _ _ _ _ _ _ _
   | exact ih2 _ _ _ _ _ _ _ _ _ _ _ _ _ _ _ _ _ _ _
   | exact ih3 _ _ _ _ _ _ _ _ _ _ _ _ _ _ _ _ _ _ _
   | exact ih4 _ _ _ _ _ _ _ _ _ _ _ _ _ _ _ _ _ _ _ _ _
   | exact ih5 _ _ _ _ _ _ _ _ _ _ _ _ _ _ _ _ _ _ _ _
   | exact call_Most.mono _ _ _ _ _ _ _ _ _
   | exact sumplaw25_awake.mono _
   | exact sumpref27_Check.mono _ _ _ _ _ _ _ _ _
   | exact LeO.none _
   | refine LeO.ite ?_ ?_
   | refine LeO.bind ?_ (fun _ => ?_)
  ·intro y0 y1 y2 y3 y4 y5 y6 y7 y8 y9 y10 y11 y12 y13 y14 y15 y16 y17 y18 y19
   unfold sumplaw25_CallChecks.j5
   repeat' first
   | (with_reducible exact ih0 _ _ _ _ _ _ _ _ _ _ _ _ _ _ _ _ _ _ _)
   | (with_reducible exact ih1 _ _ _ _ _ _ _ _ _ _ _ _ _ _ _ _ _ _ _ _)
   | (with_reducible exact ih2 _ _ _ _ _ _ _ _ _ _ _ _ _ _ _ _ _ _ _)
   | (with_reducible exact ih3 _ _ _ _ _ _ _ _ _ _ _ _ _ _ _ _ _ _ _)
   | (with_reducible exact ih4 _ _ _ _ _ _ _ _ _ _ _ _ _ _ _ _ _ _ _ _ _)
   | (with_reducible exact ih5 _ _ _ _ _ _ _ _ _ _ _ _ _ _ _ _ _ _ _ _)
   | (with_reducible exact call_Most.mono _ _ _ _ _ _ _ _ _)
   | (with_reducible exact sumplaw25_awake.mono _)
   | (with_reducible exact sumpref27_Check.mono _ _ _ _ _ _ _ _ _)
   | (with_reducible exact LeO.refl _)
   | (with_reducible exact LeO.none _)
   | (with_reducible refine LeO.ite ?_ ?_)
   | (with_reducible refine LeO.bind ?_ (fun _ => ?_))
   | exact ih0 _ _ _ _ _ _ _ _ _ _ _ _ _ _ _ _ _ _ _
   | exact ih1 _ _ _ _ _ _ _ _ _ _ _ _ _ _ _ _ _ _ _ _
   | exact ih2 _ _ _ _ _ _ _ _ _ _ _ _ _ _ _ _ _ _ _
   | exact ih3 _ _ _ _ _ _ _ _ _ _ _ _ _ _ _ _ _ _ _
   | exact ih4 _ _ _ _ _ _ _ _ _ _ _ _ _ _ _ _ _ _ _ _ _
   | exact ih5 _ _ _ _ _ _ _ _ _ _ _ _ _ _ _ _ _ _ _ _
   | exact call_Most.mono _ _ _ _ _ _ _ _ _
   | exact sumplaw25_awake.mono _
   | exact sumpref27_Check.mono _ _ _ _ _ _ _ _ _
   | exact LeO.none _
   | refine LeO.ite ?_ ?_
   | refine LeO.bind ?_ (fun _ => ?_)
theorem sumplaw25_CallChecks.mono : ∀ a0 a1 a2 a3 a4 a5 a6 a7 a8 a9 a10 a11 a12 a13 a14 a15 a16 a17 k, LeO (sumplaw25_CallChecks.f k a0 a1 a2 a3 a4 a5 a6 a7 a8 a9 a10 a11 a12 a13 a14 a15 a16 a17) (sumplaw25_CallChecks.f (k + 1) a0 a1 a2 a3 a4 a5 a6 a7 a8 a9 a10 a11 a12 a13 a14 a15 a16 a17) := by
 intro a0 a1 a2 a3 a4 a5 a6 a7 a8 a9 a10 a11 a12 a13 a14 a15 a16 a17 k
 obtain ⟨ih0, ih1, ih2, ih3, ih4, ih5⟩ := sumplaw25_CallChecks.mono_l k
 unfold sumplaw25_CallChecks.f
 repeat' first
   | (with_reducible exact ih0 _ _ _ _ _ _ _ _ _ _ _ _ _ _ _ _ _ _ _)
   | (with_reducible exact ih1 _ _ _ _ _ _ _ _ _ _ _ _ _ _ _ _ _ _ _ _)
   | (with_reducible exact ih2 _ _ _ _ _ _ _ _ _ _ _ _ _ _ _ _ _ _ _)
   | (with_reducible exact ih3 _ _ _ _ _ _ _ _ _ _ _ _ _ _ _ _ _ _ _)
   | (with_reducible exact ih4 _ _ _ _ _ _ _ _ _ _ _ _ _ _ _ _ _ _ _ _ _)
   | (with_reducible exact ih5 _ _ _ _ _ _ _ _ _ _ _ _ _ _ _ _ _ _ _ _)
   | (with_reducible exact call_Most.mono _ _ _ _ _ _ _ _ _)
   | (with_reducible exact sumplaw25_awake.mono _)
   | (with_reducible exact sumpref27_Check.mono _ _ _ _ _ _ _ _ _)
   | (with_reducible exact LeO.refl _)
   | (with_reducible exact LeO.none _)
   | (with_reducible refine LeO.ite ?_ ?_)
   | (with_reducible refine LeO.bind ?_ (fun _ => ?_))
   | exact ih0 _ _ _ _ _ _ _ _ _ _ _ _ _ _ _ _ _ _ _
   | exact ih1 _ _ _ _ _ _ _ _ _ _ _ _ _ _ _ _ _ _ _ _
   | exact ih2 _ _ _ _ _ _ _ _ _ _ _ _ _ _ _ _ _ _ _
   | exact ih3 _ _ _ _ _ _ _ _ _ _ _ _ _ _ _ _ _ _ _
   | exact ih4 _ _ _ _ _ _ _ _ _ _ _ _ _ _ _ _ _ _ _ _ _
   | exact ih5 _ _ _ _ _ _ _ _ _ _ _ _ _ _ _ _ _ _ _ _
   | exact call_Most.mono _ _ _ _ _ _ _ _ _
   | exact sumplaw25_awake.mono _
   | exact sumpref27_Check.mono _ _ _ _ _ _ _ _ _
   | exact LeO.none _
   | refine LeO.ite ?_ ?_
   | refine LeO.bind ?_ (fun _ => ?_)
def sumplaw25_CallChecks.T13 : Bool × List (List Nat × List Nat) := (true, [([], []), ([0], [0]), ([], []), ([2, 1], [2]), ([1, 3], [1, 3]), ([4, 3], [4]), ([5], [5]), ([6, 5, 5], [5, 6]), ([5], [5]), ([8, 7, 5], [5, 8]), ([7, 9, 5], [5, 7, 9]), ([5, 10], [5, 10]), ([11, 9], [11]), ([12], [12]), ([12], [12]), ([13, 14, 12, 12], [12, 13, 14]), ([12], [12]), ([12], [12]), ([16, 17, 15, 12], [12, 16, 17]), ([15, 18, 12], [12, 15, 18]), ([12, 19], [12, 19]), ([20, 18], [20]), ([21], [21]), ([22, 21, 21], [21, 22]), ([21], [21]), ([23, 24, 21], [21, 23, 24]), ([21, 25], [21, 25]), ([26, 23], [26]), ([27], [27]), ([28, 27, 27], [27, 28]), ([27], [27]), ([30, 27], [27, 30]), ([31, 27], [27, 31]), ([32, 29, 27], [27, 32]), ([33], [33]), ([34, 33], [33, 34]), ([35, 33], [33, 35]), ([33, 36, 27], [27, 33, 36]), ([29, 37, 27], [27, 29, 37]), ([27, 38], [27, 38]), ([39, 33], [39]), ([40], [40]), ([41, 40, 40], [40, 41]), ([40], [40]), ([43, 40], [40, 43]), ([44, 40], [40, 44]), ([45, 42, 40], [40, 45]), ([46], [46]), ([47, 46], [46, 47]), ([48, 46], [46, 48]), ([46, 49, 40], [40, 46, 49]), ([42, 50, 40], [40, 42, 50]), ([40, 51], [40, 51]), ([52, 46], [52]), ([53], [53]), ([53], [53]), ([54, 55, 53, 53], [53, 54, 55]), ([53], [53]), ([56, 57, 53], [53, 56, 57]), ([53, 58], [53, 58]), ([59, 56, 0, 1, 2, 3, 4, 5, 6, 7, 8, 9, 10, 11, 12, 13, 14, 15, 16, 17, 18, 19, 20, 21, 22, 23, 24, 25, 26, 27, 28, 29, 30, 31, 32, 33, 34, 35, 36, 37, 38, 39, 40, 41, 42, 43, 44, 45, 46, 47, 48, 49, 50, 51, 52, 53, 54, 55, 56, 57, 58, 59], [59])])
def sumplaw25_CallChecks.B13 : List Nat := [0, 1, 0, 7, 15, 31, 63, 127, 63, 511, 1023, 2047, 4095, 8191, 8191, 32767, 8191, 8191, 262143, 524287, 1048575, 2097151, 4194303, 8388607, 4194303, 33554431, 67108863, 134217727, 268435455, 536870911, 268435455, 1342177279, 3489660927, 8589934591, 17179869183, 34359738367, 68719476735, 137438953471, 274877906943, 549755813887, 1099511627775, 2199023255551, 4398046511103, 2199023255551, 10995116277759, 28587302322175, 70368744177663, 140737488355327, 281474976710655, 562949953421311, 1125899906842623, 2251799813685247, 4503599627370495, 9007199254740991, 18014398509481983, 18014398509481983, 72057594037927935, 18014398509481983, 288230376151711743, 576460752303423487, 1152921504606846975]
theorem sumplaw25_CallChecks.tab13 : rtab .any (opsOf Try.f12 13) = sumplaw25_CallChecks.T13 := by kernel_rfl
theorem sumplaw25_CallChecks.bits13 : waitsOk sumplaw25_CallChecks.T13.2 sumplaw25_CallChecks.B13 = true := by kernel_rfl
abbrev TB (m : Nat) : Array Bool := ((List.range 61).map (fun i => m.testBit i)).toArray
end Go.Proofs.Ytbbpjjbgdemmpaa.PCallChecks
