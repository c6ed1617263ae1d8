-- Written by a program of this session: the printer, with contracts put in that were proved by hand. Lean checks it.
import Derived.Test.YteoklaofbdfjlaaPEffectChecksx0
import Derived.Test.YteoklaofbdfjlaaPEffectChecksx5
import Derived.Test.YteoklaofbdfjlaaPEffectChecksx6
import Derived.Test.YteoklaofbdfjlaaPEffectChecksx7d
import Derived.Test.YteoklaofbdfjlaaPEffectChecksx8
namespace Go.Proofs.Yteoklaofbdfjlaa.PEffectChecks
open Go.RowKit Go.Proofs.YteoklaofbdfjlaaW.PrintWords Go.Proofs.YteoklaofbdfjlaaW.PrintLast Go.Proofs.YteoklaofbdfjlaaW.PrintMore
attribute [local go_sem] L.setCell_drewN max2_int min2_int max_two min_two max_three min_three max_four min_four   -- for this text's walks alone
set_option linter.unusedVariables false
set_option linter.unusedSimpArgs false

/-! ### sumplaw09_EffectChecks: function 3 -/
def sumplaw09_EffectChecks.f (k : Nat) (a0_0 : Int) (a0_1 : Int) (a0_2 : Int) (a0_3 : Int) (a0_4 : Int) (a0_5 : Int) (a0_6 : ByteArray) (a0_7 : ByteArray) (l0_8 : List Int) (a1_0 : Int) (a1_1 : Int) (a1_2 : Int) (a1_3 : Int) (a1_4 : Int) (a1_5 : Int) (a1_6 : ByteArray) (a1_7 : ByteArray) (l1_8 : List Int) (a2 : Int) : Option (Bool) := (sumplaw09_awake.f k).bind fun t169 => (if t169 = true then ((sumplaw09_Few.f k (([(⟨a0_0, a0_1, a0_2, a0_3, a0_4, a0_5, a0_6, a0_7, l0_8⟩ : S24), (⟨a1_0, a1_1, a1_2, a1_3, a1_4, a1_5, a1_6, a1_7, l1_8⟩ : S24)] : List (S24)))).bind fun t173 => (if t173 = true then ((effect_Check.f k a0_0 a0_1 a0_2 a0_3 a0_4 a0_5 a0_6 a0_7 l0_8).bind fun t174 => ((sumpref09_Check.f k a0_0 a0_1 a0_2 a0_3 a0_4 a0_5 a0_6 a0_7 l0_8).bind fun t175 => (if t174 = t175 then ((effect_Same.f a0_0 a0_1 a0_2 a0_3 a0_4 a0_5 a0_6 a0_7 l0_8 a1_0 a1_1 a1_2 a1_3 a1_4 a1_5 a1_6 a1_7 l1_8).bind fun t176 => ((sumpref09_Same.f a0_0 a0_1 a0_2 a0_3 a0_4 a0_5 a0_6 a0_7 l0_8 a1_0 a1_1 a1_2 a1_3 a1_4 a1_5 a1_6 a1_7 l1_8).bind fun t177 => (if (t176 == t177) = true then ((effect_Word.f a2).bind fun t178 => (if a2 < 1 then (if ((t178.toList == ([] : List UInt8)) == true) = true then ((effect_Bare.f a0_0 a0_1 a0_2 a0_3 a0_4 a0_5 a0_6 a0_7 l0_8).bind fun bt179 => (if (bt179.2.2.2.2.2.2.2.2.length : Int) = 0 then ((effect_Word.f a0_0).bind fun t190 => (if t190.toList = ([] : List UInt8) then ((effect_Check.f k a0_0 a0_1 a0_2 a0_3 a0_4 a0_5 a0_6 a0_7 l0_8).bind fun t191 => (some (t191 != 0))) else (some true))) else (some false))) else (some false)) else (if ((t178.toList == ([] : List UInt8)) == (decide (a2 > 8))) = true then ((effect_Bare.f a0_0 a0_1 a0_2 a0_3 a0_4 a0_5 a0_6 a0_7 l0_8).bind fun bt192 => (if (bt192.2.2.2.2.2.2.2.2.length : Int) = 0 then ((effect_Word.f a0_0).bind fun t203 => (if t203.toList = ([] : List UInt8) then ((effect_Check.f k a0_0 a0_1 a0_2 a0_3 a0_4 a0_5 a0_6 a0_7 l0_8).bind fun t204 => (some (t204 != 0))) else (some true))) else (some false))) else (some false)))) else (some false)))) else (some false)))) else (some true))) else (some false))
theorem sumplaw09_EffectChecks.mono : ∀ a0 a1 a2 a3 a4 a5 a6 a7 a8 a9 a10 a11 a12 a13 a14 a15 a16 a17 a18 k, LeO (sumplaw09_EffectChecks.f k a0 a1 a2 a3 a4 a5 a6 a7 a8 a9 a10 a11 a12 a13 a14 a15 a16 a17 a18) (sumplaw09_EffectChecks.f (k + 1) a0 a1 a2 a3 a4 a5 a6 a7 a8 a9 a10 a11 a12 a13 a14 a15 a16 a17 a18) := by
  intro a0 a1 a2 a3 a4 a5 a6 a7 a8 a9 a10 a11 a12 a13 a14 a15 a16 a17 a18 k
  unfold sumplaw09_EffectChecks.f
  repeat' first
      | (with_reducible exact effect_Check.mono _ _ _ _ _ _ _ _ _ _)
      | (with_reducible exact sumplaw09_Few.mono _ _)
      | (with_reducible exact sumplaw09_awake.mono _)
      | (with_reducible exact sumpref09_Check.mono _ _ _ _ _ _ _ _ _ _)
      | (with_reducible exact LeO.refl _)
      | (with_reducible exact LeO.none _)
      | (with_reducible refine LeO.ite ?_ ?_)
      | (with_reducible refine LeO.bind ?_ (fun _ => ?_))
      | exact effect_Check.mono _ _ _ _ _ _ _ _ _ _
      | exact sumplaw09_Few.mono _ _
      | exact sumplaw09_awake.mono _
      | exact sumpref09_Check.mono _ _ _ _ _ _ _ _ _ _
      | exact LeO.none _
      | refine LeO.ite ?_ ?_
      | refine LeO.bind ?_ (fun _ => ?_)
def sumplaw09_EffectChecks.T5 : Bool × List (List Nat × List Nat) := (true, [([], []), ([0], [0]), ([], []), ([2, 1], [2]), ([1, 3], [1, 3]), ([4, 3], [4]), ([5], [5]), ([5], [5]), ([6, 7, 5, 5], [5, 6, 7]), ([5], [5]), ([5], [5]), ([9, 10, 8, 5], [5, 9, 10]), ([8, 11, 5], [5, 8, 11]), ([5, 12], [5, 12]), ([13, 11], [13]), ([14], [14]), ([15, 14, 14], [14, 15]), ([16, 14], [14, 16]), ([14], [14]), ([18, 14], [14, 18]), ([19, 16, 14], [14, 19]), ([20], [20]), ([21, 20], [20, 21]), ([20, 22, 14], [14, 20, 22]), ([17, 23, 14], [14, 17, 23]), ([14, 24], [14, 24]), ([25, 20], [25]), ([26], [26]), ([27, 26, 26], [26, 27]), ([28, 26], [26, 28]), ([29, 26], [26, 29]), ([30, 26], [26, 30]), ([26, 31], [26, 31]), ([32, 28], [32]), ([33], [33]), ([34, 33], [33, 34]), ([35, 33, 33], [33, 35]), ([36, 33], [33, 36]), ([37, 36, 33], [33, 37]), ([38], [38]), ([39, 38, 38], [38, 39]), ([40, 38], [38, 40]), ([38, 41, 33], [33, 38, 41]), ([33, 42], [33, 42]), ([43, 40, 0, 1, 2, 3, 4, 5, 6, 7, 8, 9, 10, 11, 12, 13, 14, 15, 16, 17, 18, 19, 20, 21, 22, 23, 24, 25, 26, 27, 28, 29, 30, 31, 32, 33, 34, 35, 36, 37, 38, 39, 40, 41, 42, 43], [43])])
def sumplaw09_EffectChecks.B5 : List Nat := [0, 1, 0, 7, 15, 31, 63, 63, 255, 63, 63, 2047, 4095, 8191, 16383, 32767, 65535, 131071, 32767, 294911, 917503, 1966079, 4063231, 8257535, 16777215, 33554431, 67108863, 134217727, 268435455, 536870911, 1073741823, 2147483647, 4294967295, 8589934591, 17179869183, 34359738367, 68719476735, 137438953471, 274877906943, 549755813887, 1099511627775, 2199023255551, 4398046511103, 8796093022207, 17592186044415]
theorem sumplaw09_EffectChecks.tab5 : rtab .any (opsOf Try.f3 5) = sumplaw09_EffectChecks.T5 := by kernel_rfl
theorem sumplaw09_EffectChecks.bits5 : waitsOk sumplaw09_EffectChecks.T5.2 sumplaw09_EffectChecks.B5 = true := by kernel_rfl
theorem fld8 (v0 v1 v2 v3 v4 v5 v6 v7 v8 : Value) (w : World) : (Instr.field 24 (.agg #[v0, v1, v2, v3, v4, v5, v6, v7, v8]) 8).run Try.prog w = .ok v8 w := by kernel_rfl
end Go.Proofs.Yteoklaofbdfjlaa.PEffectChecks
