/- The drawn label: contracts of the reference's l71Label and of the draws of labels. No condition but that the reader's place stays small. -/
import Derived.Test.YtehnnnopjghbpaaDoorRead
import Derived.Test.YtehnnnopjghbpaaDoorLab
namespace Go.Proofs.YtehnnnopjghbpaaDoor
set_option maxRecDepth 100000
open Go.RowKit
set_option linter.unusedVariables false

/-- What a draw of a label leaves. -/
def LabelDrawn (x : Nat) (p : Int) (w : World) (e : Ending) (w' : World) : Prop :=
  ∃ s k : Int, e = .returned (.agg #[.int .i64 s, .int .i64 k]) ∧ ∃ q : Int, p ≤ q ∧ q ≤ p + 4 ∧ Rd w' x q ∧ Kept x w w'
end Go.Proofs.YtehnnnopjghbpaaDoor
