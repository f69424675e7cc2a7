/- Contracts of the small checks of labels, calls and rights, of the program and of the reference: each computes its plain function and makes at most new blocks. No condition. -/
import Derived.Test.YtmgikgcoigcadaaBase
namespace Go.Proofs.Ytmgikgcoigcadaa
open Go.RowKit

theorem l6In_any (n lo hi : Int) (w : World) :
    Calls Try.prog 32 #[.int .i64 n, .int .i64 lo, .int .i64 hi] w fun e w' => e = .returned (.bool (inB n lo hi)) ∧ w = w' := by
  go_enter Try.func32, Try.ntmps32
  go_wp2
  all_goals
    go_ret
    exact ⟨ret_bool (by simp [inB, *]; try omega), rfl⟩
theorem labelOk_any (s v : Int) (w : World) :
    Calls Try.prog 25 #[.agg #[.int .i64 s, .int .i64 v]] w fun e w' => e = .returned (.bool (lblOk s v)) ∧ Below w.heap.size w w' := by
  go_enter Try.func25, Try.ntmps25
  go_wp2
  all_goals
    go_ret
    exact ⟨ret_bool (by simp [lblOk, inB, *]; try omega), (Below.refl _ _).alloc (Nat.le_refl _) _⟩
theorem slabelOk_any (s v : Int) (w : World) :
    Calls Try.prog 14 #[.agg #[.int .i64 s, .int .i64 v]] w fun e w' => e = .returned (.bool (lblOk s v)) ∧ Below w.heap.size w w' := by
  go_enter Try.func14, Try.ntmps14
  go_wp2_with (go_at_call 32; refine (l6In_any _ _ _ _).mono ?_; rintro e w' ⟨rfl, rfl⟩)
  all_goals
    go_ret
    exact ⟨ret_bool (by simp [lblOk, *]), (Below.refl _ _).alloc (Nat.le_refl _) _⟩
theorem rightOk_any (t v : Int) (r wr k : Bool) (w : World) :
    Calls Try.prog 39 #[.agg #[.int .i64 t, .int .i64 v, .bool r, .bool wr, .bool k]] w fun e w' => e = .returned (.bool (rgtOk t v r wr k)) ∧ Below w.heap.size w w' := by
  go_enter Try.func39, Try.ntmps39
  go_wp2
  all_goals
    go_ret
    exact ⟨ret_bool (by simp_all [rgtOk, rgtNull, inB]; try omega), (Below.refl _ _).alloc (Nat.le_refl _) _⟩
theorem srightOk_any (t v : Int) (r wr k : Bool) (w : World) :
    Calls Try.prog 36 #[.agg #[.int .i64 t, .int .i64 v, .bool r, .bool wr, .bool k]] w fun e w' => e = .returned (.bool (rgtOk t v r wr k)) ∧ Below w.heap.size w w' := by
  go_enter Try.func36, Try.ntmps36
  go_wp2_with (go_at_call 32; refine (l6In_any _ _ _ _).mono ?_; rintro e w' ⟨rfl, rfl⟩)
  all_goals
    go_ret
    exact ⟨ret_bool (by simp_all [rgtOk, rgtNull, inB]; try omega), (Below.refl _ _).alloc (Nat.le_refl _) _⟩
theorem toRight_any (t v : Int) (r wr k : Bool) (w : World) :
    Calls Try.prog 20 #[.agg #[.int .i64 t, .int .i64 v, .bool r, .bool wr, .bool k]] w fun e w' => e = .returned (.agg #[.int .i64 t, .int .i64 v, .bool r, .bool wr, .bool k]) ∧ Below w.heap.size w w' := by
  go_enter Try.func20, Try.ntmps20
  go_wp2
  exact bodyPost_ret (v := .agg #[.int .i64 t, .int .i64 v, .bool r, .bool wr, .bool k]) (by simp [results, Try.results20, go_sem]) rfl
    ⟨rfl, (((Below.refl _ _).alloc (Nat.le_refl _) _).alloc (by simp) _).alloc (by simp; omega) _⟩
end Go.Proofs.Ytmgikgcoigcadaa
