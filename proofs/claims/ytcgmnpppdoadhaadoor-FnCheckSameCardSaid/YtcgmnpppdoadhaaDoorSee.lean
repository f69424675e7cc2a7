/- The walks of the laws FnSees and FnTouches, on drawn tables. No condition. -/
import Derived.Test.YtcgmnpppdoadhaaDoorDFn
import Derived.Test.YtcgmnpppdoadhaaDoorChk
import Derived.Test.YtcgmnpppdoadhaaDoorLabPure
namespace Go.Proofs.YtcgmnpppdoadhaaDoor
set_option maxRecDepth 100000
open Go.RowKit
set_option linter.unusedVariables false
set_option linter.unusedSimpArgs false

theorem kindAtB_at {ts : List Th} {j : Nat} {t : Th} (h : ts[j]? = some t) (k : Int) : kindAtB ts ((j : Int) + 1) k = (t.kind == k) := by
  have hj : j < ts.length := (List.getElem?_eq_some_iff.1 h).1
  unfold kindAtB
  rw [show ((j : Int) + 1 - 1).toNat = j by omega, h]
  have : inB ((j : Int) + 1) 1 ts.length = true := by simp [inB]; omega
  simp [this]
end Go.Proofs.YtcgmnpppdoadhaaDoor
