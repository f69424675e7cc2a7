/- The draws of rights: contracts of DrawRightOk, DrawRightLess, DrawRightIn. No condition but that the code is a row of bytes. -/
import Derived.Test.YtehnnnopjghbpaaDoorDrawRgt
import Derived.Test.YtehnnnopjghbpaaDoorRgt2
namespace Go.Proofs.YtehnnnopjghbpaaDoor
set_option maxRecDepth 100000
open Go.RowKit
set_option linter.unusedVariables false

/-- A drawn right. -/
def RightsDrawn1 (w : World) (e : Ending) (w' : World) : Prop :=
  ∃ (t v : Int) (r wr k : Bool), e = .returned (.agg #[.int .i64 t, .int .i64 v, .bool r, .bool wr, .bool k]) ∧ Below w.heap.size w w'
/-- Two drawn rights. -/
def RightsDrawn2 (w : World) (e : Ending) (w' : World) : Prop :=
  ∃ (t1 v1 : Int) (r1 k1 l1 : Bool) (t2 v2 : Int) (r2 k2 l2 : Bool), e = .returned (.tuple #[.agg #[.int .i64 t1, .int .i64 v1, .bool r1, .bool k1, .bool l1], .agg #[.int .i64 t2, .int .i64 v2, .bool r2, .bool k2, .bool l2]]) ∧ Below w.heap.size w w'
/-- A drawn right, and what of it is kept. -/
def RightsDrawnL (w : World) (e : Ending) (w' : World) : Prop :=
  ∃ (t v : Int) (r wr k a b c : Bool), e = .returned (.tuple #[.agg #[.int .i64 t, .int .i64 v, .bool r, .bool wr, .bool k], .bool a, .bool b, .bool c]) ∧ Below w.heap.size w w'
end Go.Proofs.YtehnnnopjghbpaaDoor
