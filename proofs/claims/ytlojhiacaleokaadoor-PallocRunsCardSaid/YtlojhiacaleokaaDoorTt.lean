/- palloc: the laid table. -/
import Derived.Test.YtlojhiacaleokaaDoorPy
import Derived.Test.YtlojhiacaleokaaDoorRows
import Derived.LaidSub
import Derived.MakeChecks
import Derived.Lib.LaidTab
namespace Go.Proofs.YtlojhiacaleokaaDoor.Pa
open Go.RowKit
theorem gTab : Tryd.prog.globalNamed "math/bits.deBruijn64tab" = some 0 := by kernel_rfl
theorem gTabType : (Tryd.prog.globals[0]?).map (·.type) = some 53 := by kernel_rfl
theorem uTab : Tryd.prog.underlying 53 = some (.array 64 5) := by kernel_rfl
theorem uElem : Tryd.prog.underlying 5 = some (.int .u8) := by kernel_rfl
theorem cElem : Tryd.prog.cellsOf 5 = 1 := by kernel_rfl
theorem cTab : Tryd.prog.cellsOf 53 = 64 := by kernel_rfl
theorem tab_all {w : World} (h : laidMetH Tryd.prog Rows.pallocAllRow.laid w) : Tz.Tb w := by
  rw [MakeChecks.laidMetH_plain _ _ _ (by kernel_rfl)] at h
  have h2 := h.filter (fun x => x.1 == "math/bits.deBruijn64tab")
  have e : Rows.pallocAllRow.laid.filter (fun x => x.1 == "math/bits.deBruijn64tab") = [("math/bits.deBruijn64tab", Lib.tabData .u8 Tz.tab)] := by kernel_rfl
  rw [e] at h2
  exact Lib.tabIs_of_head gTab gTabType uTab uElem cElem cTab h2
theorem tab_does {w : World} (h : laidMetH Tryd.prog Rows.pallocDoesRow.laid w) : Tz.Tb w := by
  rw [MakeChecks.laidMetH_plain _ _ _ (by kernel_rfl)] at h
  have h2 := h.filter (fun x => x.1 == "math/bits.deBruijn64tab")
  have e : Rows.pallocDoesRow.laid.filter (fun x => x.1 == "math/bits.deBruijn64tab") = [("math/bits.deBruijn64tab", Lib.tabData .u8 Tz.tab)] := by kernel_rfl
  rw [e] at h2
  exact Lib.tabIs_of_head gTab gTabType uTab uElem cElem cTab h2
theorem tab_once {w : World} (h : laidMetH Tryd.prog Rows.pallocOnceRow.laid w) : Tz.Tb w := by
  rw [MakeChecks.laidMetH_plain _ _ _ (by kernel_rfl)] at h
  have h2 := h.filter (fun x => x.1 == "math/bits.deBruijn64tab")
  have e : Rows.pallocOnceRow.laid.filter (fun x => x.1 == "math/bits.deBruijn64tab") = [("math/bits.deBruijn64tab", Lib.tabData .u8 Tz.tab)] := by kernel_rfl
  rw [e] at h2
  exact Lib.tabIs_of_head gTab gTabType uTab uElem cElem cTab h2
theorem tab_runs {w : World} (h : laidMetH Tryd.prog Rows.pallocRunsRow.laid w) : Tz.Tb w := by
  rw [MakeChecks.laidMetH_plain _ _ _ (by kernel_rfl)] at h
  have h2 := h.filter (fun x => x.1 == "math/bits.deBruijn64tab")
  have e : Rows.pallocRunsRow.laid.filter (fun x => x.1 == "math/bits.deBruijn64tab") = [("math/bits.deBruijn64tab", Lib.tabData .u8 Tz.tab)] := by kernel_rfl
  rw [e] at h2
  exact Lib.tabIs_of_head gTab gTabType uTab uElem cElem cTab h2
end Go.Proofs.YtlojhiacaleokaaDoor.Pa
