/- Contracts of the functions on rights, of the program and of the reference: containment, lessening, equality. Each computes its plain function and makes at most new blocks. No condition. -/
import Derived.Test.YtcgmnpppdoadhaaDoorRgt
namespace Go.Proofs.YtcgmnpppdoadhaaDoor
set_option maxRecDepth 100000
open Go.RowKit
set_option linter.unusedVariables false

theorem capabilityOf_any (t v : Int) (r wr k : Bool) (w : World) :
    Calls Tryd.prog 109 #[.agg #[.int .i64 t, .int .i64 v, .bool r, .bool wr, .bool k]] w fun e w' => e = .returned (if t == 0 then .iface 162 (.agg #[]) else .iface 164 (.agg #[.int .i64 t, .int .i64 v, .bool r, .bool wr, .bool k])) ∧ Below w.heap.size w w' := by
  cases e : (t == 0)
  · exact capabilityOf_some t v r wr k e w
  · obtain rfl : t = 0 := by simpa using e
    exact capabilityOf_none v r wr k w
theorem eqRight_any (t1 v1 : Int) (r1 w1 k1 : Bool) (t2 v2 : Int) (r2 w2 k2 : Bool) (w : World) :
    Calls Tryd.prog 102 #[.agg #[.int .i64 t1, .int .i64 v1, .bool r1, .bool w1, .bool k1], .agg #[.int .i64 t2, .int .i64 v2, .bool r2, .bool w2, .bool k2]] w fun e w' => e = .returned (.bool (rgtEq t1 v1 r1 w1 k1 t2 v2 r2 w2 k2)) ∧ Below w.heap.size w w' := by
  have t0 : Below w.heap.size w w := Below.refl _ _
  go_enter Tryd.func102, Tryd.ntmps102
  go_wp2
  all_goals
    go_ret
    refine ⟨ret_bool (by simp_all [rgtEq]), ?_⟩
    (repeat (first | with_reducible exact t0 | (with_reducible refine Below.setCell ?_ ?_ _) | (with_reducible refine Below.alloc ?_ ?_ _) | with_reducible refine Below.drew ?_)); (all_goals (first | omega | (simp <;> omega)))
end Go.Proofs.YtcgmnpppdoadhaaDoor
