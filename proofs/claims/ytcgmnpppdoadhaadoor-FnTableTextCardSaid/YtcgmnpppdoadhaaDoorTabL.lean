/- What a row that lists strconv's table gives a walk: the table lies in its variable. No condition. -/
import Derived.Test.YtcgmnpppdoadhaaDoorItI
import Derived.LaidLaws
import Derived.MakeChecks
import Derived.Stop.LaidErr
import Derived.Lib.LaidTab
namespace Go.Proofs.YtcgmnpppdoadhaaDoor
set_option maxRecDepth 100000
open Go.ChangeShapes Go.WideShapes Go.ChangeAt Go.RowKit
set_option linter.unusedVariables false

theorem tabGT : (Tryd.prog.globals[1]?).map (·.type) = some 173 := by kernel_rfl
theorem tabD : Rows.laid_internal_strconv_uint64pow10 (H := Unit) = Lib.tabData .u64 Lib.pow10Tab := by rfl
theorem tab_of_laid {W : World} (h : laidMetH Tryd.prog Rows.fnTableTextRow.laid W) : Tab W := by
  rw [MakeChecks.laidMetH_plain _ _ _ (by kernel_rfl)] at h
  have h3 : laidMet Tryd.prog [("internal/strconv.uint64pow10", Rows.laid_internal_strconv_uint64pow10)] W := h.tail.tail
  rw [tabD] at h3
  have ht := Lib.tabIs_of_head tabG tabGT Tryd.underlying173 Tryd.underlying166 (by kernel_rfl) (by kernel_rfl) h3
  refine ⟨ht, ?_⟩
  have hc := ht.cell tabG 0 (by decide)
  apply Classical.byContradiction
  intro hb
  simp [World.cell?, Array.getElem?_eq_none (show W.heap.size ≤ 1 from by omega)] at hc
end Go.Proofs.YtcgmnpppdoadhaaDoor
