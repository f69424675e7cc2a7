/- The draws of labels: contracts of DrawLabelJoin, DrawLabelMeet, DrawLabelFlow. No condition but that the code is a row of bytes. -/
import Derived.Test.YtehnnnopjghbpaaDoorDrawLab
namespace Go.Proofs.YtehnnnopjghbpaaDoor
set_option maxRecDepth 100000
open Go.RowKit
set_option linter.unusedVariables false

theorem IsRow.len_le {k : IntKind} {w : World} {a : Option Addr} {len cap : Nat} {z : List Int} (h : IsRow k w a len cap z) : len ≤ 9223372036854775807 := by
  rcases h with ⟨_, rfl, _, _⟩ | ⟨_, _, h1, h2, _⟩
  · omega
  · unfold maxLen at h2; omega

/-- Two drawn labels. -/
def LabelsDrawn (w : World) (e : Ending) (w' : World) : Prop :=
  ∃ s1 v1 s2 v2 : Int, e = .returned (.tuple #[.agg #[.int .i64 s1, .int .i64 v1], .agg #[.int .i64 s2, .int .i64 v2]]) ∧ Below w.heap.size w w'
end Go.Proofs.YtehnnnopjghbpaaDoor
