/- Contracts of the functions on rights, of the program and of the reference: containment, lessening, equality. Each computes its plain function and makes at most new blocks. No condition. -/
import Derived.Test.YtehnnnopjghbpaaDoorRgt
namespace Go.Proofs.YtehnnnopjghbpaaDoor
set_option maxRecDepth 100000
open Go.RowKit
set_option linter.unusedVariables false

theorem capabilityOf_any (t v : Int) (r wr k : Bool) (w : World) :
    Calls Tryd.prog 14 #[.agg #[.int .i64 t, .int .i64 v, .bool r, .bool wr, .bool k]] w fun e w' => e = .returned (if t == 0 then .iface 53 (.agg #[]) else .iface 55 (.agg #[.int .i64 t, .int .i64 v, .bool r, .bool wr, .bool k])) ∧ Below w.heap.size w w' := by
  cases e : (t == 0)
  · exact capabilityOf_some t v r wr k e w
  · obtain rfl : t = 0 := by simpa using e
    exact capabilityOf_none v r wr k w
end Go.Proofs.YtehnnnopjghbpaaDoor
