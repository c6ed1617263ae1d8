-- Written by a program of this session: the printer, with contracts put in that were proved by hand. Lean checks it.
import Derived.Test.YtnikcccobfcndaaDoorPReplyTextsx0
import Derived.Test.YtnikcccobfcndaaDoorPReplyTextsx1
import Derived.Test.YtnikcccobfcndaaDoorPReplyTextsx2
import Derived.Test.YtnikcccobfcndaaDoorPReplyTextsx3
import Derived.Test.YtnikcccobfcndaaDoorPReplyTextsx4
namespace Go.Proofs.YtnikcccobfcndaaDoor.PReplyTexts
open Go.RowKit Go.Proofs.YtnikcccobfcndaaDoorW.PrintWords Go.Proofs.YtnikcccobfcndaaDoorW.PrintLast Go.Proofs.YtnikcccobfcndaaDoorW.PrintMore
attribute [local go_sem] L.setCell_drewN max2_int min2_int max_two min_two max_three min_three max_four min_four   -- for this text's walks alone
set_option linter.unusedVariables false
set_option linter.unusedSimpArgs false

/-! ### sumplaw26_ReplyTexts: function 3 -/
mutual
def sumplaw26_ReplyTexts.j0 : Nat → Int → Bool → Int → Int → Int → Int → Int → List Int → List ByteArray → Int → Int → Int → Int → Int → List Int → List ByteArray → Option (Bool)
  | 0, _, _, _, _, _, _, _, _, _, _, _, _, _, _, _, _ => none
  | k + 1, x2, x22, x177000, x177001, x177002, x177003, x177004, x177005, x177006, x178000, x178001, x178002, x178003, x178004, x178005, x178006 => if x22 = true then (some true) else ((sumpref27_Errno.f x177000).bind fun t181 => (if t181.toList = ([] : List UInt8) then (sumplaw26_ReplyTexts.j1 k x2 (⟨#[63]⟩ : ByteArray) x177000 x177001 x177002 x177003 x177004 x177005 x177006 x178000 x178001 x178002 x178003 x178004 x178005 x178006) else (sumplaw26_ReplyTexts.j1 k x2 t181 x177000 x177001 x177002 x177003 x177004 x177005 x177006 x178000 x178001 x178002 x178003 x178004 x178005 x178006)))
def sumplaw26_ReplyTexts.j1 : Nat → Int → ByteArray → Int → Int → Int → Int → Int → List Int → List ByteArray → Int → Int → Int → Int → Int → List Int → List ByteArray → Option (Bool)
  | 0, _, _, _, _, _, _, _, _, _, _, _, _, _, _, _, _ => none
  | k + 1, x2, x7, x177000, x177001, x177002, x177003, x177004, x177005, x177006, x178000, x178001, x178002, x178003, x178004, x178005, x178006 => if x177000 = 0 then ((sumplaw26_decimal.f k x177001).bind fun t182 => (if 1 + t182.size ≤ 9223372036854775807 then (if x7.size + ((⟨#[32]⟩ : ByteArray) ++ t182).size ≤ 9223372036854775807 then (if x177002 = 0 then (sumplaw26_ReplyTexts.j3 k x2 (x7 ++ ((⟨#[32]⟩ : ByteArray) ++ t182)) x177000 x177001 x177002 x177003 x177004 x177005 x177006 x178000 x178001 x178002 x178003 x178004 x178005 x178006) else (if x177002 = 1 then (sumplaw26_ReplyTexts.j2 k x2 (x7 ++ ((⟨#[32]⟩ : ByteArray) ++ t182)) (⟨#[102, 105, 108, 101]⟩ : ByteArray) x177000 x177001 x177002 x177003 x177004 x177005 x177006 x178000 x178001 x178002 x178003 x178004 x178005 x178006) else (sumplaw26_ReplyTexts.j2 k x2 (x7 ++ ((⟨#[32]⟩ : ByteArray) ++ t182)) (⟨#[63]⟩ : ByteArray) x177000 x177001 x177002 x177003 x177004 x177005 x177006 x178000 x178001 x178002 x178003 x178004 x178005 x178006))) else (none)) else (none))) else (sumplaw26_ReplyTexts.j6 k x2 x7 x177000 x177001 x177002 x177003 x177004 x177005 x177006 x178000 x178001 x178002 x178003 x178004 x178005 x178006)
def sumplaw26_ReplyTexts.j6 : Nat → Int → ByteArray → Int → Int → Int → Int → Int → List Int → List ByteArray → Int → Int → Int → Int → Int → List Int → List ByteArray → Option (Bool)
  | 0, _, _, _, _, _, _, _, _, _, _, _, _, _, _, _, _ => none
  | k + 1, x2, x7, x177000, x177001, x177002, x177003, x177004, x177005, x177006, x178000, x178001, x178002, x178003, x178004, x178005, x178006 => (reply_Text.f k x177000 x177001 x177002 x177003 x177004 x177005 x177006).bind fun t195 => (if t195.toList = x7.toList then ((reply_Word.f x2).bind fun t196 => ((sumpref27_Errno.f x2).bind fun t197 => (if t196.toList = t197.toList then ((reply_Same.f k x177000 x177001 x177002 x177003 x177004 x177005 x177006 x178000 x178001 x178002 x178003 x178004 x178005 x178006).bind fun t198 => ((sumpref27_SameReply.f k x177000 x177001 x177002 x177003 x177004 x177005 x177006 x178000 x178001 x178002 x178003 x178004 x178005 x178006).bind fun t199 => (some (t198 == t199)))) else (some false)))) else (some false))
def sumplaw26_ReplyTexts.j3 : Nat → Int → ByteArray → Int → Int → Int → Int → Int → List Int → List ByteArray → Int → Int → Int → Int → Int → List Int → List ByteArray → Option (Bool)
  | 0, _, _, _, _, _, _, _, _, _, _, _, _, _, _, _, _ => none
  | k + 1, x2, x7, x177000, x177001, x177002, x177003, x177004, x177005, x177006, x178000, x178001, x178002, x178003, x178004, x178005, x178006 => sumplaw26_ReplyTexts.l0 k x2 x7 x177005 (x177005.length : Int) 0 x177000 x177001 x177002 x177003 x177004 x177005 x177006 x178000 x178001 x178002 x178003 x178004 x178005 x178006
def sumplaw26_ReplyTexts.l0 : Nat → Int → ByteArray → List Int → Int → Int → Int → Int → Int → Int → Int → List Int → List ByteArray → Int → Int → Int → Int → Int → List Int → List ByteArray → Option (Bool)
  | 0, _, _, _, _, _, _, _, _, _, _, _, _, _, _, _, _, _, _, _ => none
  | k + 1, x2, x7, x61, x62, x63, x177000, x177001, x177002, x177003, x177004, x177005, x177006, x178000, x178001, x178002, x178003, x178004, x178005, x178006 => if x63 < x62 then (if 0 ≤ x63 then (if x63 < (x61.length : Int) then (if x63 = 0 then (if x7.size + 1 ≤ 9223372036854775807 then (if 0 ≤ ((Int.tdiv (rd x61 x63) 16) % 256) then (if ((Int.tdiv (rd x61 x63) 16) % 256) < 16 then (if 0 ≤ (Int.tmod (rd x61 x63) 16) then (if (Int.tmod (rd x61 x63) 16) < 16 then ((some (([bt (⟨#[48, 49, 50, 51, 52, 53, 54, 55, 56, 57, 97, 98, 99, 100, 101, 102]⟩ : ByteArray) ((Int.tdiv (rd x61 x63) 16) % 256), bt (⟨#[48, 49, 50, 51, 52, 53, 54, 55, 56, 57, 97, 98, 99, 100, 101, 102]⟩ : ByteArray) (Int.tmod (rd x61 x63) 16)] : List Int) : List Int)).bind fun y188 => (if (x7 ++ (⟨#[32]⟩ : ByteArray)).size + (strOfNums y188).size ≤ 9223372036854775807 then (sumplaw26_ReplyTexts.l0 k x2 ((x7 ++ (⟨#[32]⟩ : ByteArray)) ++ (strOfNums y188)) x61 x62 (wrap64 (x63 + 1)) x177000 x177001 x177002 x177003 x177004 x177005 x177006 x178000 x178001 x178002 x178003 x178004 x178005 x178006) else (none))) else (none)) else (none)) else (none)) else (none)) else (none)) else (if 0 ≤ ((Int.tdiv (rd x61 x63) 16) % 256) then (if ((Int.tdiv (rd x61 x63) 16) % 256) < 16 then (if 0 ≤ (Int.tmod (rd x61 x63) 16) then (if (Int.tmod (rd x61 x63) 16) < 16 then ((some (([bt (⟨#[48, 49, 50, 51, 52, 53, 54, 55, 56, 57, 97, 98, 99, 100, 101, 102]⟩ : ByteArray) ((Int.tdiv (rd x61 x63) 16) % 256), bt (⟨#[48, 49, 50, 51, 52, 53, 54, 55, 56, 57, 97, 98, 99, 100, 101, 102]⟩ : ByteArray) (Int.tmod (rd x61 x63) 16)] : List Int) : List Int)).bind fun y191 => (if x7.size + (strOfNums y191).size ≤ 9223372036854775807 then (sumplaw26_ReplyTexts.l0 k x2 (x7 ++ (strOfNums y191)) x61 x62 (wrap64 (x63 + 1)) x177000 x177001 x177002 x177003 x177004 x177005 x177006 x178000 x178001 x178002 x178003 x178004 x178005 x178006) else (none))) else (none)) else (none)) else (none)) else (none))) else (none)) else (none)) else (sumplaw26_ReplyTexts.l1 k x2 x7 x177006 (x177006.length : Int) 0 x177000 x177001 x177002 x177003 x177004 x177005 x177006 x178000 x178001 x178002 x178003 x178004 x178005 x178006)
def sumplaw26_ReplyTexts.l1 : Nat → Int → ByteArray → List ByteArray → Int → Int → Int → Int → Int → Int → Int → List Int → List ByteArray → Int → Int → Int → Int → Int → List Int → List ByteArray → Option (Bool)
  | 0, _, _, _, _, _, _, _, _, _, _, _, _, _, _, _, _, _, _, _ => none
  | k + 1, x2, x7, x84, x85, x86, x177000, x177001, x177002, x177003, x177004, x177005, x177006, x178000, x178001, x178002, x178003, x178004, x178005, x178006 => if x86 < x85 then (if 0 ≤ x86 then (if x86 < (x84.length : Int) then (if 1 + (rdOf ByteArray.empty x84 x86).size ≤ 9223372036854775807 then (if x7.size + ((⟨#[32]⟩ : ByteArray) ++ (rdOf ByteArray.empty x84 x86)).size ≤ 9223372036854775807 then (sumplaw26_ReplyTexts.l1 k x2 (x7 ++ ((⟨#[32]⟩ : ByteArray) ++ (rdOf ByteArray.empty x84 x86))) x84 x85 (wrap64 (x86 + 1)) x177000 x177001 x177002 x177003 x177004 x177005 x177006 x178000 x178001 x178002 x178003 x178004 x178005 x178006) else (none)) else (none)) else (none)) else (none)) else (sumplaw26_ReplyTexts.j6 k x2 x7 x177000 x177001 x177002 x177003 x177004 x177005 x177006 x178000 x178001 x178002 x178003 x178004 x178005 x178006)
def sumplaw26_ReplyTexts.j2 : Nat → Int → ByteArray → ByteArray → Int → Int → Int → Int → Int → List Int → List ByteArray → Int → Int → Int → Int → Int → List Int → List ByteArray → Option (Bool)
  | 0, _, _, _, _, _, _, _, _, _, _, _, _, _, _, _, _, _ => none
  | k + 1, x2, x7, x8, x177000, x177001, x177002, x177003, x177004, x177005, x177006, x178000, x178001, x178002, x178003, x178004, x178005, x178006 => if x177002 = 2 then (if 1 + 3 ≤ 9223372036854775807 then (if 3 + 1 ≤ 9223372036854775807 then ((sumplaw26_decimal.f k x177003).bind fun t183 => (if (((⟨#[32]⟩ : ByteArray) ++ (⟨#[100, 105, 114]⟩ : ByteArray)) ++ (⟨#[32]⟩ : ByteArray)).size + t183.size ≤ 9223372036854775807 then (if ((((⟨#[32]⟩ : ByteArray) ++ (⟨#[100, 105, 114]⟩ : ByteArray)) ++ (⟨#[32]⟩ : ByteArray)) ++ t183).size + 1 ≤ 9223372036854775807 then ((sumplaw26_decimal.f k x177004).bind fun t184 => (if (((((⟨#[32]⟩ : ByteArray) ++ (⟨#[100, 105, 114]⟩ : ByteArray)) ++ (⟨#[32]⟩ : ByteArray)) ++ t183) ++ (⟨#[32]⟩ : ByteArray)).size + t184.size ≤ 9223372036854775807 then (if x7.size + ((((((⟨#[32]⟩ : ByteArray) ++ (⟨#[100, 105, 114]⟩ : ByteArray)) ++ (⟨#[32]⟩ : ByteArray)) ++ t183) ++ (⟨#[32]⟩ : ByteArray)) ++ t184).size ≤ 9223372036854775807 then (sumplaw26_ReplyTexts.j3 k x2 (x7 ++ ((((((⟨#[32]⟩ : ByteArray) ++ (⟨#[100, 105, 114]⟩ : ByteArray)) ++ (⟨#[32]⟩ : ByteArray)) ++ t183) ++ (⟨#[32]⟩ : ByteArray)) ++ t184)) x177000 x177001 x177002 x177003 x177004 x177005 x177006 x178000 x178001 x178002 x178003 x178004 x178005 x178006) else (none)) else (none))) else (none)) else (none))) else (none)) else (none)) else (if 1 + x8.size ≤ 9223372036854775807 then (if ((⟨#[32]⟩ : ByteArray) ++ x8).size + 1 ≤ 9223372036854775807 then ((sumplaw26_decimal.f k x177003).bind fun t185 => (if (((⟨#[32]⟩ : ByteArray) ++ x8) ++ (⟨#[32]⟩ : ByteArray)).size + t185.size ≤ 9223372036854775807 then (if ((((⟨#[32]⟩ : ByteArray) ++ x8) ++ (⟨#[32]⟩ : ByteArray)) ++ t185).size + 1 ≤ 9223372036854775807 then ((sumplaw26_decimal.f k x177004).bind fun t186 => (if (((((⟨#[32]⟩ : ByteArray) ++ x8) ++ (⟨#[32]⟩ : ByteArray)) ++ t185) ++ (⟨#[32]⟩ : ByteArray)).size + t186.size ≤ 9223372036854775807 then (if x7.size + ((((((⟨#[32]⟩ : ByteArray) ++ x8) ++ (⟨#[32]⟩ : ByteArray)) ++ t185) ++ (⟨#[32]⟩ : ByteArray)) ++ t186).size ≤ 9223372036854775807 then (sumplaw26_ReplyTexts.j3 k x2 (x7 ++ ((((((⟨#[32]⟩ : ByteArray) ++ x8) ++ (⟨#[32]⟩ : ByteArray)) ++ t185) ++ (⟨#[32]⟩ : ByteArray)) ++ t186)) x177000 x177001 x177002 x177003 x177004 x177005 x177006 x178000 x178001 x178002 x178003 x178004 x178005 x178006) else (none)) else (none))) else (none)) else (none))) else (none)) else (none))
end
def sumplaw26_ReplyTexts.f (k : Nat) (a0_0 : Int) (a0_1 : Int) (a0_2 : Int) (a0_3 : Int) (a0_4 : Int) (l0_5 : List Int) (l0_6 : List ByteArray) (a1_0 : Int) (a1_1 : Int) (a1_2 : Int) (a1_3 : Int) (a1_4 : Int) (l1_5 : List Int) (l1_6 : List ByteArray) (a2 : Int) : Option (Bool) := (sumplaw26_awake.f k).bind fun t178 => (if t178 = true then ((sumplaw26_Few.f k a0_0 a0_1 a0_2 a0_3 a0_4 l0_5 l0_6).bind fun t179 => (if t179 = true then ((sumplaw26_Few.f k a1_0 a1_1 a1_2 a1_3 a1_4 l1_5 l1_6).bind fun t180 => (sumplaw26_ReplyTexts.j0 k a2 (!t180) a0_0 a0_1 a0_2 a0_3 a0_4 l0_5 l0_6 a1_0 a1_1 a1_2 a1_3 a1_4 l1_5 l1_6)) else (sumplaw26_ReplyTexts.j0 k a2 true a0_0 a0_1 a0_2 a0_3 a0_4 l0_5 l0_6 a1_0 a1_1 a1_2 a1_3 a1_4 l1_5 l1_6))) else (some false))
theorem sumplaw26_ReplyTexts.mono_l : ∀ k, (∀ y0 y1 y2 y3 y4 y5 y6 y7 y8 y9 y10 y11 y12 y13 y14 y15, LeO (sumplaw26_ReplyTexts.j0 k y0 y1 y2 y3 y4 y5 y6 y7 y8 y9 y10 y11 y12 y13 y14 y15) (sumplaw26_ReplyTexts.j0 (k + 1) y0 y1 y2 y3 y4 y5 y6 y7 y8 y9 y10 y11 y12 y13 y14 y15)) ∧ (∀ y0 y1 y2 y3 y4 y5 y6 y7 y8 y9 y10 y11 y12 y13 y14 y15, LeO (sumplaw26_ReplyTexts.j1 k y0 y1 y2 y3 y4 y5 y6 y7 y8 y9 y10 y11 y12 y13 y14 y15) (sumplaw26_ReplyTexts.j1 (k + 1) y0 y1 y2 y3 y4 y5 y6 y7 y8 y9 y10 y11 y12 y13 y14 y15)) ∧ (∀ y0 y1 y2 y3 y4 y5 y6 y7 y8 y9 y10 y11 y12 y13 y14 y15, LeO (sumplaw26_ReplyTexts.j6 k y0 y1 y2 y3 y4 y5 y6 y7 y8 y9 y10 y11 y12 y13 y14 y15) (sumplaw26_ReplyTexts.j6 (k + 1) y0 y1 y2 y3 y4 y5 y6 y7 y8 y9 y10 y11 y12 y13 y14 y15)) ∧ (∀ y0 y1 y2 y3 y4 y5 y6 y7 y8 y9 y10 y11 y12 y13 y14 y15, LeO (sumplaw26_ReplyTexts.j3 k y0 y1 y2 y3 y4 y5 y6 y7 y8 y9 y10 y11 y12 y13 y14 y15) (sumplaw26_ReplyTexts.j3 (k + 1) y0 y1 y2 y3 y4 y5 y6 y7 y8 y9 y10 y11 y12 y13 y14 y15)) ∧ (∀ y0 y1 y2 y3 y4 y5 y6 y7 y8 y9 y10 y11 y12 y13 y14 y15 y16 y17 y18, LeO (sumplaw26_ReplyTexts.l0 k y0 y1 y2 y3 y4 y5 y6 y7 y8 y9 y10 y11 y12 y13 y14 y15 y16 y17 y18) (sumplaw26_ReplyTexts.l0 (k + 1) y0 y1 y2 y3 y4 y5 y6 y7 y8 y9 y10 y11 y12 y13 y14 y15 y16 y17 y18)) ∧ (∀ y0 y1 y2 y3 y4 y5 y6 y7 y8 y9 y10 y11 y12 y13 y14 y15 y16 y17 y18, LeO (sumplaw26_ReplyTexts.l1 k y0 y1 y2 y3 y4 y5 y6 y7 y8 y9 y10 y11 y12 y13 y14 y15 y16 y17 y18) (sumplaw26_ReplyTexts.l1 (k + 1) y0 y1 y2 y3 y4 y5 y6 y7 y8 y9 y10 y11 y12 y13 y14 y15 y16 y17 y18)) ∧ (∀ y0 y1 y2 y3 y4 y5 y6 y7 y8 y9 y10 y11 y12 y13 y14 y15 y16, LeO (sumplaw26_ReplyTexts.j2 k y0 y1 y2 y3 y4 y5 y6 y7 y8 y9 y10 y11 y12 y13 y14 y15 y16) (sumplaw26_ReplyTexts.j2 (k + 1) y0 y1 y2 y3 y4 y5 y6 y7 y8 y9 y10 y11 y12 y13 y14 y15 y16))
  | 0 => ⟨fun _ _ _ _ _ _ _ _ _ _ _ _ _ _ _ _ r h => by simp [sumplaw26_ReplyTexts.j0] at h, fun _ _ _ _ _ _ _ _ _ _ _ _ _ _ _ _ r h => by simp [sumplaw26_ReplyTexts.j1] at h, fun _ _ _ _ _ _ _ _ _ _ _ _ _ _ _ _ r h => by simp [sumplaw26_ReplyTexts.j6] at h, fun _ _ _ _ _ _ _ _ _ _ _ _ _ _ _ _ r h => by simp [sumplaw26_ReplyTexts.j3] at h, fun _ _ _ _ _ _ _ _ _ _ _ _ _ _ _ _ _ _ _ r h => by simp [sumplaw26_ReplyTexts.l0] at h, fun _ _ _ _ _ _ _ _ _ _ _ _ _ _ _ _ _ _ _ r h => by simp [sumplaw26_ReplyTexts.l1] at h, fun _ _ _ _ _ _ _ _ _ _ _ _ _ _ _ _ _ r h => by simp [sumplaw26_ReplyTexts.j2] at h⟩
  | k + 1 => by
    obtain ⟨ih0, ih1, ih2, ih3, ih4, ih5, ih6⟩ := sumplaw26_ReplyTexts.mono_l k
    refine ⟨?_, ?_, ?_, ?_, ?_, ?_, ?_⟩
    · intro y0 y1 y2 y3 y4 y5 y6 y7 y8 y9 y10 y11 y12 y13 y14 y15
      unfold sumplaw26_ReplyTexts.j0
      repeat' first
      | (with_reducible exact ih0 _ _ _ _ _ _ _ _ _ _ _ _ _ _ _ _)
      | (with_reducible exact ih1 _ _ _ _ _ _ _ _ _ _ _ _ _ _ _ _)
      | (with_reducible exact ih2 _ _ _ _ _ _ _ _ _ _ _ _ _ _ _ _)
      | (with_reducible exact ih3 _ _ _ _ _ _ _ _ _ _ _ _ _ _ _ _)
      | (with_reducible exact ih4 _ _ _ _ _ _ _ _ _ _ _ _ _ _ _ _ _ _ _)
      | (with_reducible exact ih5 _ _ _ _ _ _ _ _ _ _ _ _ _ _ _ _ _ _ _)
      | (with_reducible exact ih6 _ _ _ _ _ _ _ _ _ _ _ _ _ _ _ _ _)
      | (with_reducible exact reply_Same.mono _ _ _ _ _ _ _ _ _ _ _ _ _ _ _)
      | (with_reducible exact reply_Text.mono _ _ _ _ _ _ _ _)
      | (with_reducible exact sumplaw26_Few.mono _ _ _ _ _ _ _ _)
      | (with_reducible exact sumplaw26_awake.mono _)
      | (with_reducible exact sumplaw26_decimal.mono _ _)
      | (with_reducible exact sumpref27_SameReply.mono _ _ _ _ _ _ _ _ _ _ _ _ _ _ _)
      | (with_reducible exact LeO.refl _)
      | (with_reducible exact LeO.none _)
      | (with_reducible refine LeO.ite ?_ ?_)
      | (with_reducible refine LeO.bind ?_ (fun _ => ?_))
      | exact ih0 _ _ _ _ _ _ _ _ _ _ _ _ _ _ _ _
      | exact ih1 _ _ _ _ _ _ _ _ _ _ _ _ _ _ _ _
      | exact ih2 _ _ _ _ _ _ _ _ _ _ _ _ _ _ _ _
      | exact ih3 _ _ _ _ _ _ _ _ _ _ _ _ _ _ _ _
      | exact ih4 _ _ _ _ _ _ _ _ _ _ _ _ _ _ _ _ _ _ _
      | exact ih5 _ _ _ _ _ _ _ _ _ _ _ _ _ _ _ _ _ _ _
      | exact ih6 _ _ _ _ _ _ _ _ _ _ _ _ _ _ _ _ _
      | exact reply_Same.mono _ _ _ _ _ _ _ _ _ _ _ _ _ _ _
      | exact reply_Text.mono _ _ _ _ _ _ _ _
      | exact sumplaw26_Few.mono _ _ _ _ _ _ _ _
      | exact sumplaw26_awake.mono _
      | exact sumplaw26_decimal.mono _ _
      | exact sumpref27_SameReply.mono _ _ _ _ _ _ _ _ _ _ _ _ _ _ _
      | exact LeO.none _
      | refine LeO.ite ?_ ?_
      | refine LeO.bind ?_ (fun _ => ?_)
    · intro y0 y1 y2 y3 y4 y5 y6 y7 y8 y9 y10 y11 y12 y13 y14 y15
      unfold sumplaw26_ReplyTexts.j1
      repeat' first
      | (with_reducible exact ih0 _ _ _ _ _ _ _ _ _ _ _ _ _ _ _ _)
      | (with_reducible exact ih1 _ _ _ _ _ _ _ _ _ _ _ _ _ _ _ _)
      | (with_reducible exact ih2 _ _ _ _ _ _ _ _ _ _ _ _ _ _ _ _)
      | (with_reducible exact ih3 _ _ _ _ _ _ _ _ _ _ _ _ _ _ _ _)
      | (with_reducible exact ih4 _ _ _ _ _ _ _ _ _ _ _ _ _ _ _ _ _ _ _)
      | (with_reducible exact ih5 _ _ _ _ _ _ _ _ _ _ _ _ _ _ _ _ _ _ _)
      | (with_reducible exact ih6 _ _ _ _ _ _ _ _ _ _ _ _ _ _ _ _ _)
      | (with_reducible exact reply_Same.mono _ _ _ _ _ _ _ _ _ _ _ _ _ _ _)
      | (with_reducible exact reply_Text.mono _ _ _ _ _ _ _ _)
      | (with_reducible exact sumplaw26_Few.mono _ _ _ _ _ _ _ _)
      | (with_reducible exact sumplaw26_awake.mono _)
      | (with_reducible exact sumplaw26_decimal.mono _ _)
      | (with_reducible exact sumpref27_SameReply.mono _ _ _ _ _ _ _ _ _ _ _ _ _ _ _)
      | (with_reducible exact LeO.refl _)
      | (with_reducible exact LeO.none _)
      | (with_reducible refine LeO.ite ?_ ?_)
      | (with_reducible refine LeO.bind ?_ (fun _ => ?_))
      | exact ih0 _ _ _ _ _ _ _ _ _ _ _ _ _ _ _ _
      | exact ih1 _ _ _ _ _ _ _ _ _ _ _ _ _ _ _ _
      | exact ih2 _ _ _ _ _ _ _ _ _ _ _ _ _ _ _ _
      | exact ih3 _ _ _ _ _ _ _ _ _ _ _ _ _ _ _ _
      | exact ih4 _ _ _ _ _ _ _ _ _ _ _ _ _ _ _ _ _ _ _
      | exact ih5 _ _ _ _ _ _ _ _ _ _ _ _ _ _ _ _ _ _ _
      | exact ih6 _ _ _ _ _ _ _ _ _ _ _ _ _ _ _ _ _
      | exact reply_Same.mono _ _ _ _ _ _ _ _ _ _ _ _ _ _ _
      | exact reply_Text.mono _ _ _ _ _ _ _ _
      | exact sumplaw26_Few.mono _ _ _ _ _ _ _ _
      | exact sumplaw26_awake.mono _
      | exact sumplaw26_decimal.mono _ _
      | exact sumpref27_SameReply.mono _ _ _ _ _ _ _ _ _ _ _ _ _ _ _
      | exact LeO.none _
      | refine LeO.ite ?_ ?_
      | refine LeO.bind ?_ (fun _ => ?_)
    · intro y0 y1 y2 y3 y4 y5 y6 y7 y8 y9 y10 y11 y12 y13 y14 y15
      unfold sumplaw26_ReplyTexts.j6
      repeat' first
      | (with_reducible exact ih0 _ _ _ _ _ _ _ _ _ _ _ _ _ _ _ _)
      | (with_reducible exact ih1 _ _ _ _ _ _ _ _ _ _ _ _ _ _ _ _)
      | (with_reducible exact ih2 _ _ _ _ _ _ _ _ _ _ _ _ _ _ _ _)
      | (with_reducible exact ih3 _ _ _ _ _ _ _ _ _ _ _ _ _ _ _ _)
      | (with_reducible exact ih4 _ _ _ _ _ _ _ _ _ _ _ _ _ _ _ _ _ _ _)
      | (with_reducible exact ih5 _ _ _ _ _ _ _ _ _ _ _ _ _ _ _ _ _ _ _)
      | (with_reducible exact ih6 _ _ _ _ _ _ _ _ _ _ _ _ _ _ _ _ _)
      | (with_reducible exact reply_Same.mono _ _ _ _ _ _ _ _ _ _ _ _ _ _ _)
      | (with_reducible exact reply_Text.mono _ _ _ _ _ _ _ _)
      | (with_reducible exact sumplaw26_Few.mono _ _ _ _ _ _ _ _)
      | (with_reducible exact sumplaw26_awake.mono _)
      | (with_reducible exact sumplaw26_decimal.mono _ _)
      | (with_reducible exact sumpref27_SameReply.mono _ _ _ _ _ _ _ _ _ _ _ _ _ _ _)
      | (with_reducible exact LeO.refl _)
      | (with_reducible exact LeO.none _)
      | (with_reducible refine LeO.ite ?_ ?_)
      | (with_reducible refine LeO.bind ?_ (fun _ => ?_))
      | exact ih0 _ _ _ _ _ _ _ _ _ _ _ _ _ _ _ _
      | exact ih1 _ _ _ _ _ _ _ _ _ _ _ _ _ _ _ _
      | exact ih2 _ _ _ _ _ _ _ _ _ _ _ _ _ _ _ _
      | exact ih3 _ _ _ _ _ _ _ _ _ _ _ _ _ _ _ _
      | exact ih4 _ _ _ _ _ _ _ _ _ _ _ _ _ _ _ _ _ _ _
      | exact ih5 _ _ _ _ _ _ _ _ _ _ _ _ _ _ _ _ _ _ _
      | exact ih6 _ _ _ _ _ _ _ _ _ _ _ _ _ _ _ _ _
      | exact reply_Same.mono _ _ _ _ _ _ _ _ _ _ _ _ _ _ _
      | exact reply_Text.mono _ _ _ _ _ _ _ _
      | exact sumplaw26_Few.mono _ _ _ _ _ _ _ _
      | exact sumplaw26_awake.mono _
      | exact sumplaw26_decimal.mono _ _
      | exact sumpref27_SameReply.mono _ _ _ _ _ _ _ _ _ _ _ _ _ _ _
      | exact LeO.none _
      | refine LeO.ite ?_ ?_
      | refine LeO.bind ?_ (fun _ => ?_)
    · intro y0 y1 y2 y3 y4 y5 y6 y7 y8 y9 y10 y11 y12 y13 y14 y15
      unfold sumplaw26_ReplyTexts.j3
      repeat' first
      | (with_reducible exact ih0 _ _ _ _ _ _ _ _ _ _ _ _ _ _ _ _)
      | (with_reducible exact ih1 _ _ _ _ _ _ _ _ _ _ _ _ _ _ _ _)
      | (with_reducible exact ih2 _ _ _ _ _ _ _ _ _ _ _ _ _ _ _ _)
      | (with_reducible exact ih3 _ _ _ _ _ _ _ _ _ _ _ _ _ _ _ _)
      | (with_reducible exact ih4 _ _ _ _ _ _ _ _ _ _ _ _ _ _ _ _ _ _ _)
      | (with_reducible exact ih5 _ _ _ _ _ _ _ _ _ _ _ _ _ _ _ _ _ _ _)
      | (with_reducible exact ih6 _ _ _ _ _ _ _ _ _ _ _ _ _ _ _ _ _)
      | (with_reducible exact reply_Same.mono _ _ _ _ _ _ _ _ _ _ _ _ _ _ _)
      | (with_reducible exact reply_Text.mono _ _ _ _ _ _ _ _)
      | (with_reducible exact sumplaw26_Few.mono _ _ _ _ _ _ _ _)
      | (with_reducible exact sumplaw26_awake.mono _)
      | (with_reducible exact sumplaw26_decimal.mono _ _)
      | (with_reducible exact sumpref27_SameReply.mono _ _ _ _ _ _ _ _ _ _ _ _ _ _ _)
      | (with_reducible exact LeO.refl _)
      | (with_reducible exact LeO.none _)
      | (with_reducible refine LeO.ite ?_ ?_)
      | (with_reducible refine LeO.bind ?_ (fun _ => ?_))
      | exact ih0 _ _ _ _ _ _ _ _ _ _ _ _ _ _ _ _
      | exact ih1 _ _ _ _ _ _ _ _ _ _ _ _ _ _ _ _
      | exact ih2 _ _ _ _ _ _ _ _ _ _ _ _ _ _ _ _
      | exact ih3 _ _ _ _ _ _ _ _ _ _ _ _ _ _ _ _
      | exact ih4 _ _ _ _ _ _ _ _ _ _ _ _ _ _ _ _ _ _ _
      | exact ih5 _ _ _ _ _ _ _ _ _ _ _ _ _ _ _ _ _ _ _
      | exact ih6 _ _ _ _ _ _ _ _ _ _ _ _ _ _ _ _ _
      | exact reply_Same.mono _ _ _ _ _ _ _ _ _ _ _ _ _ _ _
      | exact reply_Text.mono _ _ _ _ _ _ _ _
      | exact sumplaw26_Few.mono _ _ _ _ _ _ _ _
      | exact sumplaw26_awake.mono _
      | exact sumplaw26_decimal.mono _ _
      | exact sumpref27_SameReply.mono _ _ _ _ _ _ _ _ _ _ _ _ _ _ _
      | exact LeO.none _
      | refine LeO.ite ?_ ?_
      | refine LeO.bind ?_ (fun _ => ?_)
    · intro y0 y1 y2 y3 y4 y5 y6 y7 y8 y9 y10 y11 y12 y13 y14 y15 y16 y17 y18
      unfold sumplaw26_ReplyTexts.l0
      repeat' first
      | (with_reducible exact ih0 _ _ _ _ _ _ _ _ _ _ _ _ _ _ _ _)
      | (with_reducible exact ih1 _ _ _ _ _ _ _ _ _ _ _ _ _ _ _ _)
      | (with_reducible exact ih2 _ _ _ _ _ _ _ _ _ _ _ _ _ _ _ _)
      | (with_reducible exact ih3 _ _ _ _ _ _ _ _ _ _ _ _ _ _ _ _)
      | (with_reducible exact ih4 _ _ _ _ _ _ _ _ _ _ _ _ _ _ _ _ _ _ _)
      | (with_reducible exact ih5 _ _ _ _ _ _ _ _ _ _ _ _ _ _ _ _ _ _ _)
      | (with_reducible exact ih6 _ _ _ _ _ _ _ _ _ _ _ _ _ _ _ _ _)
      | (with_reducible exact reply_Same.mono _ _ _ _ _ _ _ _ _ _ _ _ _ _ _)
      | (with_reducible exact reply_Text.mono _ _ _ _ _ _ _ _)
      | (with_reducible exact sumplaw26_Few.mono _ _ _ _ _ _ _ _)
      | (with_reducible exact sumplaw26_awake.mono _)
      | (with_reducible exact sumplaw26_decimal.mono _ _)
      | (with_reducible exact sumpref27_SameReply.mono _ _ _ _ _ _ _ _ _ _ _ _ _ _ _)
      | (with_reducible exact LeO.refl _)
      | (with_reducible exact LeO.none _)
      | (with_reducible refine LeO.ite ?_ ?_)
      | (with_reducible refine LeO.bind ?_ (fun _ => ?_))
      | exact ih0 _ _ _ _ _ _ _ _ _ _ _ _ _ _ _ _
      | exact ih1 _ _ _ _ _ _ _ _ _ _ _ _ _ _ _ _
      | exact ih2 _ _ _ _ _ _ _ _ _ _ _ _ _ _ _ _
      | exact ih3 _ _ _ _ _ _ _ _ _ _ _ _ _ _ _ _
      | exact ih4 _ _ _ _ _ _ _ _ _ _ _ _ _ _ _ _ _ _ _
      | exact ih5 _ _ _ _ _ _ _ _ _ _ _ _ _ _ _ _ _ _ _
      | exact ih6 _ _ _ _ _ _ _ _ _ _ _ _ _ _ _ _ _
      | exact reply_Same.mono _ _ _ _ _ _ _ _ _ _ _ _ _ _ _
      | exact reply_Text.mono _ _ _ _ _ _ _ _
      | exact sumplaw26_Few.mono _ _ _ _ _ _ _ _
      | exact sumplaw26_awake.mono _
      | exact sumplaw26_decimal.mono _ _
      | exact sumpref27_SameReply.mono _ _ _ _ _ _ _ _ _ _ _ _ _ _ _
      | exact LeO.none _
      | refine LeO.ite ?_ ?_
      | refine LeO.bind ?_ (fun _ => ?_)
    · intro y0 y1 y2 y3 y4 y5 y6 y7 y8 y9 y10 y11 y12 y13 y14 y15 y16 y17 y18
      unfold sumplaw26_ReplyTexts.l1
      repeat' first
      | (with_reducible exact ih0 _ _ _ _ _ _ _ _ _ _ _ _ _ _ _ _)
      | (with_reducible exact ih1 _ _ _ _ _ _ _ _ _ _ _ _ _ _ _ _)
      | (with_reducible exact ih2 _ _ _ _ _ _ _ _ _ _ _ _ _ _ _ _)
      | (with_reducible exact ih3 _ _ _ _ _ _ _ _ _ _ _ _ _ _ _ _)
      | (with_reducible exact ih4 _ _ _ _ _ _ _ _ _ _ _ _ _ _ _ _ _ _ _)
      | (with_reducible exact ih5 _ _ _ _ _ _ _ _ _ _ _ _ _ _ _ _ _ _ _)
      | (with_reducible exact ih6 _ _ _ _ _ _ _ _ _ _ _ _ _ _ _ _ _)
      | (with_reducible exact reply_Same.mono _ _ _ _ _ _ _ _ _ _ _ _ _ _ _)
      | (with_reducible exact reply_Text.mono _ _ _ _ _ _ _ _)
      | (with_reducible exact sumplaw26_Few.mono _ _ _ _ _ _ _ _)
      | (with_reducible exact sumplaw26_awake.mono _)
      | (with_reducible exact sumplaw26_decimal.mono _ _)
      | (with_reducible exact sumpref27_SameReply.mono _ _ _ _ _ _ _ _ _ _ _ _ _ _ _)
      | (with_reducible exact LeO.refl _)
      | (with_reducible exact LeO.none _)
      | (with_reducible refine LeO.ite ?_ ?_)
      | (with_reducible refine LeO.bind ?_ (fun _ => ?_))
      | exact ih0 _ _ _ _ _ _ _ _ _ _ _ _ _ _ _ _
      | exact ih1 _ _ _ _ _ _ _ _ _ _ _ _ _ _ _ _
      | exact ih2 _ _ _ _ _ _ _ _ _ _ _ _ _ _ _ _
      | exact ih3 _ _ _ _ _ _ _ _ _ _ _ _ _ _ _ _
      | exact ih4 _ _ _ _ _ _ _ _ _ _ _ _ _ _ _ _ _ _ _
      | exact ih5 _ _ _ _ _ _ _ _ _ _ _ _ _ _ _ _ _ _ _
      | exact ih6 _ _ _ _ _ _ _ _ _ _ _ _ _ _ _ _ _
      | exact reply_Same.mono _ _ _ _ _ _ _ _ _ _ _ _ _ _ _
      | exact reply_Text.mono _ _ _ _ _ _ _ _
      | exact sumplaw26_Few.mono _ _ _ _ _ _ _ _
      | exact sumplaw26_awake.mono _
      | exact sumplaw26_decimal.mono _ _
      | exact sumpref27_SameReply.mono _ _ _ _ _ _ _ _ _ _ _ _ _ _ _
      | exact LeO.none _
      | refine LeO.ite ?_ ?_
      | refine LeO.bind ?_ (fun _ => ?_)
    · intro y0 y1 y2 y3 y4 y5 y6 y7 y8 y9 y10 y11 y12 y13 y14 y15 y16
      unfold sumplaw26_ReplyTexts.j2
      repeat' first
      | (with_reducible exact ih0 _ _ _ _ _ _ _ _ _ _ _ _ _ _ _ _)
      | (with_reducible exact ih1 _ _ _ _ _ _ _ _ _ _ _ _ _ _ _ _)
      | (with_reducible exact ih2 _ _ _ _ _ _ _ _ _ _ _ _ _ _ _ _)
      | (with_reducible exact ih3 _ _ _ _ _ _ _ _ _ _ _ _ _ _ _ _)
      | (with_reducible exact ih4 _ _ _ _ _ _ _ _ _ _ _ _ _ _ _ _ _ _ _)
      | (with_reducible exact ih5 _ _ _ _ _ _ _ _ _ _ _ _ _ _ _ _ _ _ _)
      | (with_reducible exact ih6 _ _ _ _ _ _ _ _ _ _ _ _ _ _ _ _ _)
      | (with_reducible exact reply_Same.mono _ _ _ _ _ _ _ _ _ _ _ _ _ _ _)
      | (with_reducible exact reply_Text.mono _ _ _ _ _ _ _ _)
      | (with_reducible exact sumplaw26_Few.mono _ _ _ _ _ _ _ _)
      | (with_reducible exact sumplaw26_awake.mono _)
      | (with_reducible exact sumplaw26_decimal.mono _ _)
      | (with_reducible exact sumpref27_SameReply.mono _ _ _ _ _ _ _ _ _ _ _ _ _ _ _)
      | (with_reducible exact LeO.refl _)
      | (with_reducible exact LeO.none _)
      | (with_reducible refine LeO.ite ?_ ?_)
      | (with_reducible refine LeO.bind ?_ (fun _ => ?_))
      | exact ih0 _ _ _ _ _ _ _ _ _ _ _ _ _ _ _ _
      | exact ih1 _ _ _ _ _ _ _ _ _ _ _ _ _ _ _ _
      | exact ih2 _ _ _ _ _ _ _ _ _ _ _ _ _ _ _ _
      | exact ih3 _ _ _ _ _ _ _ _ _ _ _ _ _ _ _ _
      | exact ih4 _ _ _ _ _ _ _ _ _ _ _ _ _ _ _ _ _ _ _
      | exact ih5 _ _ _ _ _ _ _ _ _ _ _ _ _ _ _ _ _ _ _
      | exact ih6 _ _ _ _ _ _ _ _ _ _ _ _ _ _ _ _ _
      | exact reply_Same.mono _ _ _ _ _ _ _ _ _ _ _ _ _ _ _
      | exact reply_Text.mono _ _ _ _ _ _ _ _
      | exact sumplaw26_Few.mono _ _ _ _ _ _ _ _
      | exact sumplaw26_awake.mono _
      | exact sumplaw26_decimal.mono _ _
      | exact sumpref27_SameReply.mono _ _ _ _ _ _ _ _ _ _ _ _ _ _ _
      | exact LeO.none _
      | refine LeO.ite ?_ ?_
      | refine LeO.bind ?_ (fun _ => ?_)
theorem sumplaw26_ReplyTexts.mono : ∀ a0 a1 a2 a3 a4 a5 a6 a7 a8 a9 a10 a11 a12 a13 a14 k, LeO (sumplaw26_ReplyTexts.f k a0 a1 a2 a3 a4 a5 a6 a7 a8 a9 a10 a11 a12 a13 a14) (sumplaw26_ReplyTexts.f (k + 1) a0 a1 a2 a3 a4 a5 a6 a7 a8 a9 a10 a11 a12 a13 a14) := by
  intro a0 a1 a2 a3 a4 a5 a6 a7 a8 a9 a10 a11 a12 a13 a14 k
  obtain ⟨ih0, ih1, ih2, ih3, ih4, ih5, ih6⟩ := sumplaw26_ReplyTexts.mono_l k
  unfold sumplaw26_ReplyTexts.f
  repeat' first
      | (with_reducible exact ih0 _ _ _ _ _ _ _ _ _ _ _ _ _ _ _ _)
      | (with_reducible exact ih1 _ _ _ _ _ _ _ _ _ _ _ _ _ _ _ _)
      | (with_reducible exact ih2 _ _ _ _ _ _ _ _ _ _ _ _ _ _ _ _)
      | (with_reducible exact ih3 _ _ _ _ _ _ _ _ _ _ _ _ _ _ _ _)
      | (with_reducible exact ih4 _ _ _ _ _ _ _ _ _ _ _ _ _ _ _ _ _ _ _)
      | (with_reducible exact ih5 _ _ _ _ _ _ _ _ _ _ _ _ _ _ _ _ _ _ _)
      | (with_reducible exact ih6 _ _ _ _ _ _ _ _ _ _ _ _ _ _ _ _ _)
      | (with_reducible exact reply_Same.mono _ _ _ _ _ _ _ _ _ _ _ _ _ _ _)
      | (with_reducible exact reply_Text.mono _ _ _ _ _ _ _ _)
      | (with_reducible exact sumplaw26_Few.mono _ _ _ _ _ _ _ _)
      | (with_reducible exact sumplaw26_awake.mono _)
      | (with_reducible exact sumplaw26_decimal.mono _ _)
      | (with_reducible exact sumpref27_SameReply.mono _ _ _ _ _ _ _ _ _ _ _ _ _ _ _)
      | (with_reducible exact LeO.refl _)
      | (with_reducible exact LeO.none _)
      | (with_reducible refine LeO.ite ?_ ?_)
      | (with_reducible refine LeO.bind ?_ (fun _ => ?_))
      | exact ih0 _ _ _ _ _ _ _ _ _ _ _ _ _ _ _ _
      | exact ih1 _ _ _ _ _ _ _ _ _ _ _ _ _ _ _ _
      | exact ih2 _ _ _ _ _ _ _ _ _ _ _ _ _ _ _ _
      | exact ih3 _ _ _ _ _ _ _ _ _ _ _ _ _ _ _ _
      | exact ih4 _ _ _ _ _ _ _ _ _ _ _ _ _ _ _ _ _ _ _
      | exact ih5 _ _ _ _ _ _ _ _ _ _ _ _ _ _ _ _ _ _ _
      | exact ih6 _ _ _ _ _ _ _ _ _ _ _ _ _ _ _ _ _
      | exact reply_Same.mono _ _ _ _ _ _ _ _ _ _ _ _ _ _ _
      | exact reply_Text.mono _ _ _ _ _ _ _ _
      | exact sumplaw26_Few.mono _ _ _ _ _ _ _ _
      | exact sumplaw26_awake.mono _
      | exact sumplaw26_decimal.mono _ _
      | exact sumpref27_SameReply.mono _ _ _ _ _ _ _ _ _ _ _ _ _ _ _
      | exact LeO.none _
      | refine LeO.ite ?_ ?_
      | refine LeO.bind ?_ (fun _ => ?_)
def sumplaw26_ReplyTexts.T16 : Bool × List (List Nat × List Nat) := (true, [([], []), ([], []), ([1], [1]), ([2], [2]), ([], []), ([4], [4]), ([5], [5]), ([3, 6], [3, 6]), ([7], [7]), ([], []), ([9], [9]), ([10, 6], [10]), ([8, 11], [8, 11]), ([0, 12], [0, 12]), ([13, 11, 0, 1, 2, 3, 4, 5, 6, 7, 8, 9, 10, 11, 12, 13], [0, 13])])
def sumplaw26_ReplyTexts.B16 : List Nat := [0, 0, 2, 6, 0, 16, 48, 126, 254, 0, 512, 1648, 4094, 8191, 16383]
theorem sumplaw26_ReplyTexts.tab16 : rtab .any (opsOf Tryd.f3 16) = sumplaw26_ReplyTexts.T16 := by kernel_rfl
theorem sumplaw26_ReplyTexts.bits16 : waitsOk sumplaw26_ReplyTexts.T16.2 sumplaw26_ReplyTexts.B16 = true := by kernel_rfl
def sumplaw26_ReplyTexts.T22 : Bool × List (List Nat × List Nat) := (true, [([], []), ([], []), ([1], [1]), ([2], [2]), ([], []), ([4], [4]), ([5], [5]), ([3, 6], [3, 6]), ([7], [7]), ([0, 8], [0, 8]), ([9, 0, 1, 2, 3, 4, 5, 6, 7, 8, 9], [0, 9])])
def sumplaw26_ReplyTexts.B22 : List Nat := [0, 0, 2, 6, 0, 16, 48, 126, 254, 511, 1023]
theorem sumplaw26_ReplyTexts.tab22 : rtab .any (opsOf Tryd.f3 22) = sumplaw26_ReplyTexts.T22 := by kernel_rfl
theorem sumplaw26_ReplyTexts.bits22 : waitsOk sumplaw26_ReplyTexts.T22.2 sumplaw26_ReplyTexts.B22 = true := by kernel_rfl
def sumplaw26_ReplyTexts.T29 : Bool × List (List Nat × List Nat) := (true, [([], []), ([0], [0]), ([], []), ([1, 2], [1, 2]), ([3, 1], [3]), ([4], [4]), ([5, 4, 4], [4, 5]), ([4], [4]), ([7, 6, 4], [4, 7]), ([6, 8, 4], [4, 6, 8]), ([4, 9], [4, 9]), ([10, 8], [10]), ([11], [11]), ([11], [11]), ([12, 13, 11, 11], [11, 12, 13]), ([11], [11]), ([11], [11]), ([15, 16, 14, 11], [11, 15, 16]), ([14, 17, 11], [11, 14, 17]), ([11, 18], [11, 18]), ([19, 17, 0, 1, 2, 3, 4, 5, 6, 7, 8, 9, 10, 11, 12, 13, 14, 15, 16, 17, 18, 19], [19])])
def sumplaw26_ReplyTexts.B29 : List Nat := [0, 1, 0, 7, 15, 31, 63, 31, 255, 511, 1023, 2047, 4095, 4095, 16383, 4095, 4095, 131071, 262143, 524287, 1048575]
theorem sumplaw26_ReplyTexts.tab29 : rtab .any (opsOf Tryd.f3 29) = sumplaw26_ReplyTexts.T29 := by kernel_rfl
theorem sumplaw26_ReplyTexts.bits29 : waitsOk sumplaw26_ReplyTexts.T29.2 sumplaw26_ReplyTexts.B29 = true := by kernel_rfl
end Go.Proofs.YtnikcccobfcndaaDoor.PReplyTexts
