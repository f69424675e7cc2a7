/- Contracts of the small checks of labels, calls and rights, of the program and of the reference: each computes its plain function and makes at most new blocks. No condition. -/
import Derived.Test.YtmgikgcoigcadaaDoorBase
namespace Go.Proofs.YtmgikgcoigcadaaDoor
set_option maxRecDepth 100000
open Go.RowKit

theorem l6In_any (n lo hi : Int) (w : World) :
    Calls Tryd.prog 32 #[.int .i64 n, .int .i64 lo, .int .i64 hi] w fun e w' => e = .returned (.bool (inB n lo hi)) ∧ w = w' := by
  go_enter Tryd.func32, Tryd.ntmps32
  go_wp2
  all_goals
    go_ret
    exact ⟨ret_bool (by simp [inB, *]; try omega), rfl⟩
theorem labelOk_any (s v : Int) (w : World) :
    Calls Tryd.prog 14 #[.agg #[.int .i64 s, .int .i64 v]] w fun e w' => e = .returned (.bool (lblOk s v)) ∧ Below w.heap.size w w' := by
  go_enter Tryd.func14, Tryd.ntmps14
  go_wp2
  all_goals
    go_ret
    exact ⟨ret_bool (by simp [lblOk, inB, *]; try omega), (Below.refl _ _).alloc (Nat.le_refl _) _⟩
theorem slabelOk_any (s v : Int) (w : World) :
    Calls Tryd.prog 15 #[.agg #[.int .i64 s, .int .i64 v]] w fun e w' => e = .returned (.bool (lblOk s v)) ∧ Below w.heap.size w w' := by
  go_enter Tryd.func15, Tryd.ntmps15
  go_wp2_with (go_at_call 32; refine (l6In_any _ _ _ _).mono ?_; rintro e w' ⟨rfl, rfl⟩)
  all_goals
    go_ret
    exact ⟨ret_bool (by simp [lblOk, *]), (Below.refl _ _).alloc (Nat.le_refl _) _⟩
theorem toLabel_any (s v : Int) (w : World) :
    Calls Tryd.prog 18 #[.agg #[.int .i64 s, .int .i64 v]] w fun e w' => e = .returned (.agg #[.int .i64 s, .int .i64 v]) ∧ Below w.heap.size w w' := by
  go_enter Tryd.func18, Tryd.ntmps18
  go_wp2
  exact bodyPost_ret (v := .agg #[.int .i64 s, .int .i64 v]) (by simp [results, Tryd.results18, go_sem]) rfl
    ⟨rfl, (((Below.refl _ _).alloc (Nat.le_refl _) _).alloc (by simp) _).alloc (by simp; omega) _⟩
theorem rightOk_any (t v : Int) (r wr k : Bool) (w : World) :
    Calls Tryd.prog 26 #[.agg #[.int .i64 t, .int .i64 v, .bool r, .bool wr, .bool k]] w fun e w' => e = .returned (.bool (rgtOk t v r wr k)) ∧ Below w.heap.size w w' := by
  go_enter Tryd.func26, Tryd.ntmps26
  go_wp2
  all_goals
    go_ret
    exact ⟨ret_bool (by simp_all [rgtOk, rgtNull, inB]; try omega), (Below.refl _ _).alloc (Nat.le_refl _) _⟩
theorem srightOk_any (t v : Int) (r wr k : Bool) (w : World) :
    Calls Tryd.prog 39 #[.agg #[.int .i64 t, .int .i64 v, .bool r, .bool wr, .bool k]] w fun e w' => e = .returned (.bool (rgtOk t v r wr k)) ∧ Below w.heap.size w w' := by
  go_enter Tryd.func39, Tryd.ntmps39
  go_wp2_with (go_at_call 32; refine (l6In_any _ _ _ _).mono ?_; rintro e w' ⟨rfl, rfl⟩)
  all_goals
    go_ret
    exact ⟨ret_bool (by simp_all [rgtOk, rgtNull, inB]; try omega), (Below.refl _ _).alloc (Nat.le_refl _) _⟩
end Go.Proofs.YtmgikgcoigcadaaDoor
