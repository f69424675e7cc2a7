/- Contracts of the small checks of labels, calls and rights, of the program and of the reference: each computes its plain function and makes at most new blocks. No condition. -/
import Derived.Test.YtboajcaajccmdaaBase
namespace Go.Proofs.Ytboajcaajccmdaa
open Go.RowKit

theorem l6In_any (n lo hi : Int) (w : World) :
    Calls Try.prog 40 #[.int .i64 n, .int .i64 lo, .int .i64 hi] w fun e w' => e = .returned (.bool (inB n lo hi)) ∧ w = w' := by
  go_enter Try.func40, Try.ntmps40
  go_wp2
  all_goals
    go_ret
    exact ⟨ret_bool (by simp [inB, *]; try omega), rfl⟩
theorem labelOk_any (s v : Int) (w : World) :
    Calls Try.prog 31 #[.agg #[.int .i64 s, .int .i64 v]] w fun e w' => e = .returned (.bool (lblOk s v)) ∧ Below w.heap.size w w' := by
  go_enter Try.func31, Try.ntmps31
  go_wp2
  all_goals
    go_ret
    exact ⟨ret_bool (by simp [lblOk, inB, *]; try omega), (Below.refl _ _).alloc (Nat.le_refl _) _⟩
theorem slabelOk_any (s v : Int) (w : World) :
    Calls Try.prog 26 #[.agg #[.int .i64 s, .int .i64 v]] w fun e w' => e = .returned (.bool (lblOk s v)) ∧ Below w.heap.size w w' := by
  go_enter Try.func26, Try.ntmps26
  go_wp2_with (go_at_call 40; refine (l6In_any _ _ _ _).mono ?_; rintro e w' ⟨rfl, rfl⟩)
  all_goals
    go_ret
    exact ⟨ret_bool (by simp [lblOk, *]), (Below.refl _ _).alloc (Nat.le_refl _) _⟩
theorem toLabel_any (s v : Int) (w : World) :
    Calls Try.prog 16 #[.agg #[.int .i64 s, .int .i64 v]] w fun e w' => e = .returned (.agg #[.int .i64 s, .int .i64 v]) ∧ Below w.heap.size w w' := by
  go_enter Try.func16, Try.ntmps16
  go_wp2
  exact bodyPost_ret (v := .agg #[.int .i64 s, .int .i64 v]) (by simp [results, Try.results16, go_sem]) rfl
    ⟨rfl, (((Below.refl _ _).alloc (Nat.le_refl _) _).alloc (by simp) _).alloc (by simp; omega) _⟩
end Go.Proofs.Ytboajcaajccmdaa
