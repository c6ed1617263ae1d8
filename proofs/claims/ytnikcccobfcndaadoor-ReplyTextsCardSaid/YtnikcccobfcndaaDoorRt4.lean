/- ReplyTexts: the walk, out of the printed texts, the pure law and the row's laid table. -/
import Derived.Test.YtnikcccobfcndaaDoorPReplyTextsx5
import Derived.Test.YtnikcccobfcndaaDoorRt3
import Derived.Test.YtnikcccobfcndaaDoorRows
import Derived.LaidSub
import Derived.MakeChecks
import Derived.Lib.LaidTab
namespace Go.Proofs.YtnikcccobfcndaaDoor.PReplyTexts
open Go.RowKit Go.Proofs.YtnikcccobfcndaaDoorW.PrintWords Go.Proofs.YtnikcccobfcndaaDoor.Q
set_option linter.unusedVariables false
theorem gTab : Tryd.prog.globalNamed "internal/strconv.uint64pow10" = some 0 := by kernel_rfl
theorem gTabType : (Tryd.prog.globals[0]?).map (·.type) = some 64 := by kernel_rfl
theorem uTab : Tryd.prog.underlying 64 = some (.array 20 54) := by kernel_rfl
theorem uElem : Tryd.prog.underlying 54 = some (.int .u64) := by kernel_rfl
theorem cElem : Tryd.prog.cellsOf 54 = 1 := by kernel_rfl
theorem cTab : Tryd.prog.cellsOf 64 = 20 := by kernel_rfl
theorem tab_of {w : World} (h : laidMetH Tryd.prog Rows.replyTextsRow.laid w) : Tb w := by
  rw [MakeChecks.laidMetH_plain _ _ _ (by kernel_rfl)] at h
  have h2 := h.filter (fun x => x.1 == "internal/strconv.uint64pow10")
  have e : Rows.replyTextsRow.laid.filter (fun x => x.1 == "internal/strconv.uint64pow10") = [("internal/strconv.uint64pow10", Lib.tabData .u64 Lib.pow10Tab)] := by kernel_rfl
  rw [e] at h2
  exact Lib.tabIs_of_head gTab gTabType uTab uElem cElem cTab h2
def G26 (x : S26) : Prop := (Lit.int .i64 x.f0).wf = true ∧ (Lit.int .i64 x.f1).wf = true ∧ (Lit.int .i64 x.f2).wf = true ∧ (Lit.int .i64 x.f3).wf = true ∧ (Lit.int .i64 x.f4).wf = true ∧ (x.f5.length ≤ maxLen ∧ ∀ y2 ∈ x.f5, (Lit.int .u8 y2).wf = true) ∧ (x.f6.length ≤ maxLen ∧ ∀ y1 ∈ x.f6, y1.size ≤ maxLen)
instance : Inhabited S26 := ⟨z26⟩
theorem walkReplyTexts (x0 : S26) (cs0 : List Value) (x1 : S26) (cs1 : List Value) (a2 : Int) (w : World) (K0 : k26.K w x0 cs0) (g0 : G26 x0) (K1 : k26.K w x1 cs1) (g1 : G26 x1) (w2 : (Lit.int .i64 a2).wf = true) (hT : Tb w) :
    Calls Tryd.prog 3 #[.agg cs0.toArray, .agg cs1.toArray, .int .i64 a2] w fun e w' => e = .returned (.bool true) ∧ Below w.heap.size w w' := by
  obtain ⟨A5, c5, A6, c6, rfl, l5, h5, l6, h6⟩ := k26_open K0
  obtain ⟨B5, d5, B6, d6, rfl, m5, i5, m6, i6⟩ := k26_open K1
  have hm : maxLen ≤ 9223372036854775807 := by decide
  obtain ⟨k, hk⟩ := law a2 x0.f0 x0.f1 x0.f2 x0.f3 x0.f4 x0.f5 x0.f6 x1.f0 x1.f1 x1.f2 x1.f3 x1.f4 x1.f5 x1.f6 w2 g0.1 g0.2.1 g0.2.2.2.1 g0.2.2.2.2.1 g0.2.2.2.2.2.1.2 (Nat.le_trans g0.2.2.2.2.2.2.1 hm) (Nat.le_trans g1.2.2.2.2.2.2.1 hm)
  exact sumplaw26_ReplyTexts.calls k x0.f0 x0.f1 x0.f2 x0.f3 x0.f4 A5 c5 x0.f5 A6 c6 x0.f6 x1.f0 x1.f1 x1.f2 x1.f3 x1.f4 B5 d5 x1.f5 B6 d6 x1.f6 a2 true w h5 l5 h6 l6 i5 m5 i6 m6 hk rfl hT
end Go.Proofs.YtnikcccobfcndaaDoor.PReplyTexts
