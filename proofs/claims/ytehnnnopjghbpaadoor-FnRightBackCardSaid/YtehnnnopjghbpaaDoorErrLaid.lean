/- What a row that lists the package's sentinel gives a walk: its variable holds an error of errors.New's make; and the variable reads again in every world that has grown. No condition. -/
import Derived.Test.YtehnnnopjghbpaaDoorRgtRd
import Derived.Stop.LaidErr
import Derived.MakeChecks
import Derived.LaidLaws
import Derived.ChangeVars
import Derived.WalkSmall
namespace Go.Proofs.YtehnnnopjghbpaaDoor
set_option maxRecDepth 100000
open Go.ChangeShapes Go.WideShapes Go.ChangeAt Go.RowKit
set_option linter.unusedVariables false

theorem star : "*" ++ "errors.errorString" = "*errors.errorString" := by decide
theorem rowES (u : TypeId) (h : Tryd.prog.typeName? 3 u = some "*errors.errorString") : u = 79 :=
  typeName_ptr_named (nm := "errors.errorString") (by rw [star]; kernel_rfl) (by kernel_rfl) (by decide) u (by rw [star]; exact h)
/-- The sentinel's name among the variables. -/
def sentName : String := Rows.fnRightStrictRow.laid.head?.elim "" (·.1)
theorem gSent : Tryd.prog.globalNamed sentName = some 0 := by kernel_rfl
theorem gSentType : (Tryd.prog.globals[0]?).map (·.type) = some 42 := by kernel_rfl
theorem cES : Tryd.prog.cellsOf 121 = 1 := by kernel_rfl
theorem cStr : Tryd.prog.cellsOf 9 = 1 := by kernel_rfl
theorem sent_of_laid {W : World} (h : laidMetH Tryd.prog Rows.fnRightStrictRow.laid W) : ∃ b0, Sent b0 W ∧ W.var? Tryd.prog sentName = some #[.iface 79 (.pointer (some b0))] := by
  rw [MakeChecks.laidMetH_plain _ _ _ (by kernel_rfl)] at h
  obtain ⟨a0, s0, hv, hc, _, _⟩ := laid_sentinel h gSent gSentType Tryd.underlying42 rowES Tryd.underlying79 Tryd.underlying121 rfl rfl Tryd.underlying9 cES cStr
  have hcell : W.cell? ⟨0, 0, none⟩ = some (.iface 79 (.pointer (some a0))) := by simpa using World.var?_cell gSent hv 0
  have hlt : 0 < W.heap.size := by
    apply Classical.byContradiction
    intro hb
    simp [World.cell?, Array.getElem?_eq_none (show W.heap.size ≤ 0 from by omega)] at hcell
  exact ⟨a0, ⟨_, hlt, rfl, hcell⟩, hv⟩
end Go.Proofs.YtehnnnopjghbpaaDoor
