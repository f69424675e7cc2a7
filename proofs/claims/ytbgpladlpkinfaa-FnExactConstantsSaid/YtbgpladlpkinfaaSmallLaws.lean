/- The walks of the laws FnExactConstants, FnExactLabelOk, FnExactCallOk, FnExactRightOk: each returns true and writes nothing that was there. No condition. -/
import Derived.Test.YtbgpladlpkinfaaOk
namespace Go.Proofs.Ytbgpladlpkinfaa
open Go.RowKit
set_option linter.unusedVariables false

theorem fnExactConstants_walk (w : World) : Calls Try.prog 3 #[] w fun e w' => e = .returned (.bool true) ∧ Below w.heap.size w w' := by
  go_enter Try.func3, Try.ntmps3
  go_wp2
  go_ret
  exact ⟨rfl, Below.refl _ _⟩
theorem fnExactLabelOk_walk (s k : Int) (ws : (Lit.int .i64 s).wf = true) (wk : (Lit.int .i64 k).wf = true) (w : World) :
    Calls Try.prog 4 #[.agg #[.int .i64 s, .int .i64 k]] w fun e w' => e = .returned (.bool true) ∧ Below w.heap.size w w' := by
  clear ws wk
  have t0 : Below w.heap.size w w := Below.refl _ _
  go_enter Try.func4, Try.ntmps4
  go_wp2_with fail
  refine (toLabel_any _ _ _).mono ?_
  rintro e w1 ⟨rfl, b1⟩
  have z1 : w.heap.size + 1 ≤ w1.heap.size := by have h := b1.size; (try simp at h); omega
  have z1_0 : w.heap.size < w1.heap.size := by omega
  have t1 : Below w.heap.size w w1 := by
    refine Below.trans ?_ (b1.mono ?_)
    · repeat (first | exact t0 | (refine Below.alloc ?_ ?_ _) | (refine Below.setCell ?_ ?_ _) | refine Below.drew ?_)
      all_goals (first | omega | (simp <;> omega))
    · first | omega | (simp <;> omega)
  obtain ⟨c1, f1⟩ := bcell b1
  clear b1
  go_wp2_with fail
  refine (slabelOk_any _ _ _).mono ?_
  rintro e w2 ⟨rfl, b2⟩
  have z2 : w.heap.size + 1 ≤ w2.heap.size := by have h := b2.size; (try simp at h); omega
  have z2_0 : w.heap.size < w2.heap.size := by omega
  have t2 : Below w.heap.size w w2 := by
    refine Below.trans ?_ (b2.mono ?_)
    · repeat (first | exact t1 | (refine Below.alloc ?_ ?_ _) | (refine Below.setCell ?_ ?_ _) | refine Below.drew ?_)
      all_goals (first | omega | (simp <;> omega))
    · first | omega | (simp <;> omega)
  obtain ⟨c2, f2⟩ := bcell b2
  clear b2
  go_wp2_with fail
  refine (toLabel_any _ _ _).mono ?_
  rintro e w3 ⟨rfl, b3⟩
  have z3 : w.heap.size + 1 ≤ w3.heap.size := by have h := b3.size; (try simp at h); omega
  have z3_0 : w.heap.size < w3.heap.size := by omega
  have t3 : Below w.heap.size w w3 := by
    refine Below.trans ?_ (b3.mono ?_)
    · repeat (first | exact t2 | (refine Below.alloc ?_ ?_ _) | (refine Below.setCell ?_ ?_ _) | refine Below.drew ?_)
      all_goals (first | omega | (simp <;> omega))
    · first | omega | (simp <;> omega)
  obtain ⟨c3, f3⟩ := bcell b3
  clear b3
  go_wp2_with fail
  refine (labelOk_any _ _ _).mono ?_
  rintro e w4 ⟨rfl, b4⟩
  have z4 : w.heap.size + 1 ≤ w4.heap.size := by have h := b4.size; (try simp at h); omega
  have z4_0 : w.heap.size < w4.heap.size := by omega
  have t4 : Below w.heap.size w w4 := by
    refine Below.trans ?_ (b4.mono ?_)
    · repeat (first | exact t3 | (refine Below.alloc ?_ ?_ _) | (refine Below.setCell ?_ ?_ _) | refine Below.drew ?_)
      all_goals (first | omega | (simp <;> omega))
    · first | omega | (simp <;> omega)
  obtain ⟨c4, f4⟩ := bcell b4
  clear b4
  go_wp2_with fail
  go_ret
  refine ⟨rfl, ?_⟩
  (repeat (first | exact t4 | (refine Below.alloc ?_ ?_ _) | (refine Below.setCell ?_ ?_ _) | refine Below.drew ?_)); (all_goals (first | omega | (simp <;> omega)))
theorem fnExactCallOk_walk (k r a b n : Int) (w : World) :
    Calls Try.prog 5 #[.agg #[.int .i64 k, .int .i64 r, .int .i64 a, .int .i64 b, .int .i64 n]] w fun e w' => e = .returned (.bool true) ∧ Below w.heap.size w w' := by
  have t0 : Below w.heap.size w w := Below.refl _ _
  go_enter Try.func5, Try.ntmps5
  go_wp2_with fail
  refine (toCall_any _ _ _ _ _ _).mono ?_
  rintro e w1 ⟨rfl, b1⟩
  have z1 : w.heap.size + 1 ≤ w1.heap.size := by have h := b1.size; (try simp at h); omega
  have z1_0 : w.heap.size < w1.heap.size := by omega
  have t1 : Below w.heap.size w w1 := by
    refine Below.trans ?_ (b1.mono ?_)
    · repeat (first | exact t0 | (refine Below.alloc ?_ ?_ _) | (refine Below.setCell ?_ ?_ _) | refine Below.drew ?_)
      all_goals (first | omega | (simp <;> omega))
    · first | omega | (simp <;> omega)
  obtain ⟨c1, f1⟩ := bcell b1
  clear b1
  go_wp2_with fail
  refine (scallOk_any _ _ _ _ _ _).mono ?_
  rintro e w2 ⟨rfl, b2⟩
  have z2 : w.heap.size + 1 ≤ w2.heap.size := by have h := b2.size; (try simp at h); omega
  have z2_0 : w.heap.size < w2.heap.size := by omega
  have t2 : Below w.heap.size w w2 := by
    refine Below.trans ?_ (b2.mono ?_)
    · repeat (first | exact t1 | (refine Below.alloc ?_ ?_ _) | (refine Below.setCell ?_ ?_ _) | refine Below.drew ?_)
      all_goals (first | omega | (simp <;> omega))
    · first | omega | (simp <;> omega)
  obtain ⟨c2, f2⟩ := bcell b2
  clear b2
  go_wp2_with fail
  refine (toCall_any _ _ _ _ _ _).mono ?_
  rintro e w3 ⟨rfl, b3⟩
  have z3 : w.heap.size + 1 ≤ w3.heap.size := by have h := b3.size; (try simp at h); omega
  have z3_0 : w.heap.size < w3.heap.size := by omega
  have t3 : Below w.heap.size w w3 := by
    refine Below.trans ?_ (b3.mono ?_)
    · repeat (first | exact t2 | (refine Below.alloc ?_ ?_ _) | (refine Below.setCell ?_ ?_ _) | refine Below.drew ?_)
      all_goals (first | omega | (simp <;> omega))
    · first | omega | (simp <;> omega)
  obtain ⟨c3, f3⟩ := bcell b3
  clear b3
  go_wp2_with fail
  refine (callOk_any _ _ _ _ _ _).mono ?_
  rintro e w4 ⟨rfl, b4⟩
  have z4 : w.heap.size + 1 ≤ w4.heap.size := by have h := b4.size; (try simp at h); omega
  have z4_0 : w.heap.size < w4.heap.size := by omega
  have t4 : Below w.heap.size w w4 := by
    refine Below.trans ?_ (b4.mono ?_)
    · repeat (first | exact t3 | (refine Below.alloc ?_ ?_ _) | (refine Below.setCell ?_ ?_ _) | refine Below.drew ?_)
      all_goals (first | omega | (simp <;> omega))
    · first | omega | (simp <;> omega)
  obtain ⟨c4, f4⟩ := bcell b4
  clear b4
  go_wp2_with fail
  go_ret
  refine ⟨rfl, ?_⟩
  (repeat (first | exact t4 | (refine Below.alloc ?_ ?_ _) | (refine Below.setCell ?_ ?_ _) | refine Below.drew ?_)); (all_goals (first | omega | (simp <;> omega)))
theorem fnExactRightOk_walk (t v : Int) (r wr k : Bool) (w : World) :
    Calls Try.prog 6 #[.agg #[.int .i64 t, .int .i64 v, .bool r, .bool wr, .bool k]] w fun e w' => e = .returned (.bool true) ∧ Below w.heap.size w w' := by
  have t0 : Below w.heap.size w w := Below.refl _ _
  go_enter Try.func6, Try.ntmps6
  go_wp2_with fail
  refine (toRight_any _ _ _ _ _ _).mono ?_
  rintro e w1 ⟨rfl, b1⟩
  have z1 : w.heap.size + 1 ≤ w1.heap.size := by have h := b1.size; (try simp at h); omega
  have z1_0 : w.heap.size < w1.heap.size := by omega
  have t1 : Below w.heap.size w w1 := by
    refine Below.trans ?_ (b1.mono ?_)
    · repeat (first | exact t0 | (refine Below.alloc ?_ ?_ _) | (refine Below.setCell ?_ ?_ _) | refine Below.drew ?_)
      all_goals (first | omega | (simp <;> omega))
    · first | omega | (simp <;> omega)
  obtain ⟨c1, f1⟩ := bcell b1
  clear b1
  go_wp2_with fail
  refine (srightOk_any _ _ _ _ _ _).mono ?_
  rintro e w2 ⟨rfl, b2⟩
  have z2 : w.heap.size + 1 ≤ w2.heap.size := by have h := b2.size; (try simp at h); omega
  have z2_0 : w.heap.size < w2.heap.size := by omega
  have t2 : Below w.heap.size w w2 := by
    refine Below.trans ?_ (b2.mono ?_)
    · repeat (first | exact t1 | (refine Below.alloc ?_ ?_ _) | (refine Below.setCell ?_ ?_ _) | refine Below.drew ?_)
      all_goals (first | omega | (simp <;> omega))
    · first | omega | (simp <;> omega)
  obtain ⟨c2, f2⟩ := bcell b2
  clear b2
  go_wp2_with fail
  refine (toRight_any _ _ _ _ _ _).mono ?_
  rintro e w3 ⟨rfl, b3⟩
  have z3 : w.heap.size + 1 ≤ w3.heap.size := by have h := b3.size; (try simp at h); omega
  have z3_0 : w.heap.size < w3.heap.size := by omega
  have t3 : Below w.heap.size w w3 := by
    refine Below.trans ?_ (b3.mono ?_)
    · repeat (first | exact t2 | (refine Below.alloc ?_ ?_ _) | (refine Below.setCell ?_ ?_ _) | refine Below.drew ?_)
      all_goals (first | omega | (simp <;> omega))
    · first | omega | (simp <;> omega)
  obtain ⟨c3, f3⟩ := bcell b3
  clear b3
  go_wp2_with fail
  refine (rightOk_any _ _ _ _ _ _).mono ?_
  rintro e w4 ⟨rfl, b4⟩
  have z4 : w.heap.size + 1 ≤ w4.heap.size := by have h := b4.size; (try simp at h); omega
  have z4_0 : w.heap.size < w4.heap.size := by omega
  have t4 : Below w.heap.size w w4 := by
    refine Below.trans ?_ (b4.mono ?_)
    · repeat (first | exact t3 | (refine Below.alloc ?_ ?_ _) | (refine Below.setCell ?_ ?_ _) | refine Below.drew ?_)
      all_goals (first | omega | (simp <;> omega))
    · first | omega | (simp <;> omega)
  obtain ⟨c4, f4⟩ := bcell b4
  clear b4
  go_wp2_with fail
  go_ret
  refine ⟨rfl, ?_⟩
  (repeat (first | exact t4 | (refine Below.alloc ?_ ?_ _) | (refine Below.setCell ?_ ?_ _) | refine Below.drew ?_)); (all_goals (first | omega | (simp <;> omega)))
end Go.Proofs.Ytbgpladlpkinfaa
