/- Contracts of the small checks of labels, calls and rights, of the program and of the reference: each computes its plain function and makes at most new blocks. No condition. -/
import Derived.Test.YtcgmnpppdoadhaaDoorBase
namespace Go.Proofs.YtcgmnpppdoadhaaDoor
set_option maxRecDepth 100000
open Go.RowKit

theorem l6In_any (n lo hi : Int) (w : World) :
    Calls Tryd.prog 29 #[.int .i64 n, .int .i64 lo, .int .i64 hi] w fun e w' => e = .returned (.bool (inB n lo hi)) ∧ w = w' := by
  go_enter Tryd.func29, Tryd.ntmps29
  go_wp2
  all_goals
    go_ret
    exact ⟨ret_bool (by simp [inB, *]; try omega), rfl⟩
theorem inRange_any (n lo hi : Int) (w : World) :
    Calls Tryd.prog 60 #[.int .i64 n, .int .i64 lo, .int .i64 hi] w fun e w' => e = .returned (.bool (inB n lo hi)) ∧ w = w' := by
  go_enter Tryd.func60, Tryd.ntmps60
  go_wp2
  all_goals
    go_ret
    exact ⟨ret_bool (by simp [inB, *]; try omega), rfl⟩
theorem labelOk_any (s v : Int) (w : World) :
    Calls Tryd.prog 86 #[.agg #[.int .i64 s, .int .i64 v]] w fun e w' => e = .returned (.bool (lblOk s v)) ∧ Below w.heap.size w w' := by
  go_enter Tryd.func86, Tryd.ntmps86
  go_wp2
  all_goals
    go_ret
    exact ⟨ret_bool (by simp [lblOk, inB, *]; try omega), (Below.refl _ _).alloc (Nat.le_refl _) _⟩
theorem slabelOk_any (s v : Int) (w : World) :
    Calls Tryd.prog 55 #[.agg #[.int .i64 s, .int .i64 v]] w fun e w' => e = .returned (.bool (lblOk s v)) ∧ Below w.heap.size w w' := by
  go_enter Tryd.func55, Tryd.ntmps55
  go_wp2_with (go_at_call 29; refine (l6In_any _ _ _ _).mono ?_; rintro e w' ⟨rfl, rfl⟩)
  all_goals
    go_ret
    exact ⟨ret_bool (by simp [lblOk, *]), (Below.refl _ _).alloc (Nat.le_refl _) _⟩
theorem toLabel_any (s v : Int) (w : World) :
    Calls Tryd.prog 72 #[.agg #[.int .i64 s, .int .i64 v]] w fun e w' => e = .returned (.agg #[.int .i64 s, .int .i64 v]) ∧ Below w.heap.size w w' := by
  go_enter Tryd.func72, Tryd.ntmps72
  go_wp2
  exact bodyPost_ret (v := .agg #[.int .i64 s, .int .i64 v]) (by simp [results, Tryd.results72, go_sem]) rfl
    ⟨rfl, (((Below.refl _ _).alloc (Nat.le_refl _) _).alloc (by simp) _).alloc (by simp; omega) _⟩
theorem callOk_any (k r a b n : Int) (w : World) :
    Calls Tryd.prog 81 #[.agg #[.int .i64 k, .int .i64 r, .int .i64 a, .int .i64 b, .int .i64 n]] w fun e w' => e = .returned (.bool (clOk k r a b n)) ∧ Below w.heap.size w w' := by
  go_enter Tryd.func81, Tryd.ntmps81
  go_wp2_with (go_at_call 60; refine (inRange_any _ _ _ _).mono ?_; rintro e w' ⟨rfl, rfl⟩)
  all_goals
    go_ret
    exact ⟨ret_bool (by simp [clOk, *]), (Below.refl _ _).alloc (Nat.le_refl _) _⟩
theorem scallOk_any (k r a b n : Int) (w : World) :
    Calls Tryd.prog 12 #[.agg #[.int .i64 k, .int .i64 r, .int .i64 a, .int .i64 b, .int .i64 n]] w fun e w' => e = .returned (.bool (clOk k r a b n)) ∧ Below w.heap.size w w' := by
  go_enter Tryd.func12, Tryd.ntmps12
  go_wp2_with (go_at_call 29; refine (l6In_any _ _ _ _).mono ?_; rintro e w' ⟨rfl, rfl⟩)
  all_goals
    go_ret
    exact ⟨ret_bool (by simp [clOk, *]), (Below.refl _ _).alloc (Nat.le_refl _) _⟩
theorem rightOk_any (t v : Int) (r wr k : Bool) (w : World) :
    Calls Tryd.prog 106 #[.agg #[.int .i64 t, .int .i64 v, .bool r, .bool wr, .bool k]] w fun e w' => e = .returned (.bool (rgtOk t v r wr k)) ∧ Below w.heap.size w w' := by
  go_enter Tryd.func106, Tryd.ntmps106
  go_wp2
  all_goals
    go_ret
    exact ⟨ret_bool (by simp_all [rgtOk, rgtNull, inB]; try omega), (Below.refl _ _).alloc (Nat.le_refl _) _⟩
theorem srightOk_any (t v : Int) (r wr k : Bool) (w : World) :
    Calls Tryd.prog 56 #[.agg #[.int .i64 t, .int .i64 v, .bool r, .bool wr, .bool k]] w fun e w' => e = .returned (.bool (rgtOk t v r wr k)) ∧ Below w.heap.size w w' := by
  go_enter Tryd.func56, Tryd.ntmps56
  go_wp2_with (go_at_call 29; refine (l6In_any _ _ _ _).mono ?_; rintro e w' ⟨rfl, rfl⟩)
  all_goals
    go_ret
    exact ⟨ret_bool (by simp_all [rgtOk, rgtNull, inB]; try omega), (Below.refl _ _).alloc (Nat.le_refl _) _⟩
theorem toRight_any (t v : Int) (r wr k : Bool) (w : World) :
    Calls Tryd.prog 101 #[.agg #[.int .i64 t, .int .i64 v, .bool r, .bool wr, .bool k]] w fun e w' => e = .returned (.agg #[.int .i64 t, .int .i64 v, .bool r, .bool wr, .bool k]) ∧ Below w.heap.size w w' := by
  go_enter Tryd.func101, Tryd.ntmps101
  go_wp2
  exact bodyPost_ret (v := .agg #[.int .i64 t, .int .i64 v, .bool r, .bool wr, .bool k]) (by simp [results, Tryd.results101, go_sem]) rfl
    ⟨rfl, (((Below.refl _ _).alloc (Nat.le_refl _) _).alloc (by simp) _).alloc (by simp; omega) _⟩
end Go.Proofs.YtcgmnpppdoadhaaDoor
