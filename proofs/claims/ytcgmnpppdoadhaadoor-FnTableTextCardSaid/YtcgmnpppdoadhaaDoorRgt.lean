/- Contracts of the functions on rights, of the program and of the reference: containment and lessening. Each computes its plain function and makes at most new blocks. No condition. -/
import Derived.Test.YtcgmnpppdoadhaaDoorOk
import Derived.Test.YtcgmnpppdoadhaaDoorInv
import Derived.BigRegion
import Derived.RegionTactic
namespace Go.Proofs.YtcgmnpppdoadhaaDoor
set_option maxRecDepth 100000
open Go.RowKit
set_option linter.unusedVariables false

theorem capabilityOf_none (v : Int) (r wr k : Bool) (w : World) :
    Calls Tryd.prog 109 #[.agg #[.int .i64 0, .int .i64 v, .bool r, .bool wr, .bool k]] w fun e w' => e = .returned (.iface 162 (.agg #[])) ∧ Below w.heap.size w w' := by
  have t0 : Below w.heap.size w w := Below.refl _ _
  go_enter Tryd.func109, Tryd.ntmps109
  go_wp2
  go_ret
  refine ⟨rfl, ?_⟩
  (repeat (first | with_reducible exact t0 | (with_reducible refine Below.setCell ?_ ?_ _) | (with_reducible refine Below.alloc ?_ ?_ _) | with_reducible refine Below.drew ?_)); (all_goals (first | omega | (simp <;> omega)))
theorem capabilityOf_some (t v : Int) (r wr k : Bool) (ht : (t == 0) = false) (w : World) :
    Calls Tryd.prog 109 #[.agg #[.int .i64 t, .int .i64 v, .bool r, .bool wr, .bool k]] w fun e w' => e = .returned (.iface 164 (.agg #[.int .i64 t, .int .i64 v, .bool r, .bool wr, .bool k])) ∧ Below w.heap.size w w' := by
  have t0 : Below w.heap.size w w := Below.refl _ _
  go_enter Tryd.func109, Tryd.ntmps109
  go_wp2
  go_ret
  refine ⟨rfl, ?_⟩
  (repeat (first | with_reducible exact t0 | (with_reducible refine Below.setCell ?_ ?_ _) | (with_reducible refine Below.alloc ?_ ?_ _) | with_reducible refine Below.drew ?_)); (all_goals (first | omega | (simp <;> omega)))
theorem assert_ee (v : Value) (w : World) : Sem.run Tryd.prog (Instr.typeAssert (.iface 162 v) 156 162 true) w = .ok (.tuple #[v, .bool true]) w := by kernel_rfl
theorem assert_oe (v : Value) (w : World) : Sem.run Tryd.prog (Instr.typeAssert (.iface 164 v) 156 162 true) w = .ok (.tuple #[.agg #[], .bool false]) w := by kernel_rfl
theorem assert_oo (v : Value) (w : World) : Sem.run Tryd.prog (Instr.typeAssert (.iface 164 v) 156 164 true) w = .ok (.tuple #[v, .bool true]) w := by kernel_rfl
theorem assert_eo (v : Value) (w : World) : Sem.run Tryd.prog (Instr.typeAssert (.iface 162 v) 156 164 true) w = .ok (.tuple #[.agg #[.int .i64 0, .int .i64 0, .bool false, .bool false, .bool false], .bool false]) w := by kernel_rfl
end Go.Proofs.YtcgmnpppdoadhaaDoor
