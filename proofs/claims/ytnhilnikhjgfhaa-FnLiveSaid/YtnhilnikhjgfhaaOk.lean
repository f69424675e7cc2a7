/- Contracts of the small checks of labels, calls and rights, of the program and of the reference: each computes its plain function and makes at most new blocks. No condition. -/
import Derived.Test.YtnhilnikhjgfhaaBase
namespace Go.Proofs.Ytnhilnikhjgfhaa
open Go.RowKit

theorem l6In_any (n lo hi : Int) (w : World) :
    Calls Try.prog 48 #[.int .i64 n, .int .i64 lo, .int .i64 hi] w fun e w' => e = .returned (.bool (inB n lo hi)) ∧ w = w' := by
  go_enter Try.func48, Try.ntmps48
  go_wp2
  all_goals
    go_ret
    exact ⟨ret_bool (by simp [inB, *]; try omega), rfl⟩
theorem inRange_any (n lo hi : Int) (w : World) :
    Calls Try.prog 41 #[.int .i64 n, .int .i64 lo, .int .i64 hi] w fun e w' => e = .returned (.bool (inB n lo hi)) ∧ w = w' := by
  go_enter Try.func41, Try.ntmps41
  go_wp2
  all_goals
    go_ret
    exact ⟨ret_bool (by simp [inB, *]; try omega), rfl⟩
theorem labelOk_any (s v : Int) (w : World) :
    Calls Try.prog 42 #[.agg #[.int .i64 s, .int .i64 v]] w fun e w' => e = .returned (.bool (lblOk s v)) ∧ Below w.heap.size w w' := by
  go_enter Try.func42, Try.ntmps42
  go_wp2
  all_goals
    go_ret
    exact ⟨ret_bool (by simp [lblOk, inB, *]; try omega), (Below.refl _ _).alloc (Nat.le_refl _) _⟩
theorem slabelOk_any (s v : Int) (w : World) :
    Calls Try.prog 49 #[.agg #[.int .i64 s, .int .i64 v]] w fun e w' => e = .returned (.bool (lblOk s v)) ∧ Below w.heap.size w w' := by
  go_enter Try.func49, Try.ntmps49
  go_wp2_with (go_at_call 48; refine (l6In_any _ _ _ _).mono ?_; rintro e w' ⟨rfl, rfl⟩)
  all_goals
    go_ret
    exact ⟨ret_bool (by simp [lblOk, *]), (Below.refl _ _).alloc (Nat.le_refl _) _⟩
theorem toLabel_any (s v : Int) (w : World) :
    Calls Try.prog 53 #[.agg #[.int .i64 s, .int .i64 v]] w fun e w' => e = .returned (.agg #[.int .i64 s, .int .i64 v]) ∧ Below w.heap.size w w' := by
  go_enter Try.func53, Try.ntmps53
  go_wp2
  exact bodyPost_ret (v := .agg #[.int .i64 s, .int .i64 v]) (by simp [results, Try.results53, go_sem]) rfl
    ⟨rfl, (((Below.refl _ _).alloc (Nat.le_refl _) _).alloc (by simp) _).alloc (by simp; omega) _⟩
theorem rightOk_any (t v : Int) (r wr k : Bool) (w : World) :
    Calls Try.prog 64 #[.agg #[.int .i64 t, .int .i64 v, .bool r, .bool wr, .bool k]] w fun e w' => e = .returned (.bool (rgtOk t v r wr k)) ∧ Below w.heap.size w w' := by
  go_enter Try.func64, Try.ntmps64
  go_wp2
  all_goals
    go_ret
    exact ⟨ret_bool (by simp_all [rgtOk, rgtNull, inB]; try omega), (Below.refl _ _).alloc (Nat.le_refl _) _⟩
theorem srightOk_any (t v : Int) (r wr k : Bool) (w : World) :
    Calls Try.prog 25 #[.agg #[.int .i64 t, .int .i64 v, .bool r, .bool wr, .bool k]] w fun e w' => e = .returned (.bool (rgtOk t v r wr k)) ∧ Below w.heap.size w w' := by
  go_enter Try.func25, Try.ntmps25
  go_wp2_with (go_at_call 48; refine (l6In_any _ _ _ _).mono ?_; rintro e w' ⟨rfl, rfl⟩)
  all_goals
    go_ret
    exact ⟨ret_bool (by simp_all [rgtOk, rgtNull, inB]; try omega), (Below.refl _ _).alloc (Nat.le_refl _) _⟩
theorem toRight_any (t v : Int) (r wr k : Bool) (w : World) :
    Calls Try.prog 36 #[.agg #[.int .i64 t, .int .i64 v, .bool r, .bool wr, .bool k]] w fun e w' => e = .returned (.agg #[.int .i64 t, .int .i64 v, .bool r, .bool wr, .bool k]) ∧ Below w.heap.size w w' := by
  go_enter Try.func36, Try.ntmps36
  go_wp2
  exact bodyPost_ret (v := .agg #[.int .i64 t, .int .i64 v, .bool r, .bool wr, .bool k]) (by simp [results, Try.results36, go_sem]) rfl
    ⟨rfl, (((Below.refl _ _).alloc (Nat.le_refl _) _).alloc (by simp) _).alloc (by simp; omega) _⟩
end Go.Proofs.Ytnhilnikhjgfhaa
