/- Contracts of the functions on labels, of the program and of the reference: flow, join, meet. Each computes its plain function and makes at most new blocks. No condition (the inner ones: marks from 0 to 3). -/
import Derived.Test.YtcgmnpppdoadhaaDoorOk
import Derived.Deep.QuietTactic
import Derived.BigQuiet
import Derived.StillTailTactics
namespace Go.Proofs.YtcgmnpppdoadhaaDoor
set_option maxRecDepth 100000
open Go.RowKit
set_option linter.unusedVariables false

theorem within_any (a b : Int) (h0 : 0 ≤ a) (h1 : a ≤ 3) (h2 : 0 ≤ b) (h3 : b ≤ 3) (w : World) :
    Calls Tryd.prog 104 #[.int .u64 a, .int .u64 b] w fun e w' => e = .returned (.bool (subB a b)) ∧ w = w' := by
  have e := andNot_sub h0 h1 h2 h3
  go_enter Tryd.func104, Tryd.ntmps104
  go_wp2
  go_ret
  exact ⟨rfl, rfl⟩
theorem labelSets_any (a b : Int) (h0 : 0 ≤ a) (h1 : a ≤ 3) (h2 : 0 ≤ b) (h3 : b ≤ 3) (w : World) :
    Calls Tryd.prog 103 #[.agg #[.int .i64 a, .int .i64 b]] w fun e w' => e = .returned (.tuple #[.int .u64 a, .int .u64 b]) ∧ Below w.heap.size w w' := by
  go_enter Tryd.func103, Tryd.ntmps103
  go_wp2
  go_quiet (fail)
  go_wp2
  go_ret2
  exact ⟨rfl, below_drewN ((Below.refl _ _).alloc (Nat.le_refl _) _) _⟩
theorem l1In_any (a b : Int) (h0 : 0 ≤ a) (h1 : a ≤ 3) (h2 : 0 ≤ b) (h3 : b ≤ 3) (w : World) :
    Calls Tryd.prog 105 #[.int .i64 a, .int .i64 b] w fun e w' => e = .returned (.bool (subB a b)) ∧ w = w' := by
  go_enter Tryd.func105, Tryd.ntmps105
  go_wp2
  all_goals
    go_ret
    exact ⟨ret_bool (by simp [subB, *]; try omega), rfl⟩
theorem l1Flow_any (s1 v1 s2 v2 : Int) (h0 : 0 ≤ s1) (h1 : s1 ≤ 3) (h2 : 0 ≤ v1) (h3 : v1 ≤ 3) (h4 : 0 ≤ s2) (h5 : s2 ≤ 3) (h6 : 0 ≤ v2) (h7 : v2 ≤ 3) (w : World) :
    Calls Tryd.prog 83 #[.agg #[.int .i64 s1, .int .i64 v1], .agg #[.int .i64 s2, .int .i64 v2]] w fun e w' => e = .returned (.bool (subB s1 s2 && subB v2 v1)) ∧ Below w.heap.size w w' := by
  have t0 : Below w.heap.size w w := Below.refl _ _
  go_enter Tryd.func83, Tryd.ntmps83
  cases e1 : subB s1 s2
  · go_wp2_with fail
    refine (l1In_any _ _ h0 h1 h4 h5 _).mono ?_
    rintro e w' ⟨rfl, rfl⟩
    go_wp2_with fail
    go_ret
    refine ⟨ret_bool (by simp), ?_⟩
    (repeat (first | with_reducible exact t0 | (with_reducible refine Below.setCell ?_ ?_ _) | (with_reducible refine Below.alloc ?_ ?_ _) | with_reducible refine Below.drew ?_)); (all_goals (first | omega | (simp <;> omega)))
  · go_wp2_with fail
    refine (l1In_any _ _ h0 h1 h4 h5 _).mono ?_
    rintro e w' ⟨rfl, rfl⟩
    go_wp2_with fail
    refine (l1In_any _ _ h6 h7 h2 h3 _).mono ?_
    rintro e w' ⟨rfl, rfl⟩
    go_wp2_with fail
    go_ret
    refine ⟨ret_bool (by simp), ?_⟩
    (repeat (first | with_reducible exact t0 | (with_reducible refine Below.setCell ?_ ?_ _) | (with_reducible refine Below.alloc ?_ ?_ _) | with_reducible refine Below.drew ?_)); (all_goals (first | omega | (simp <;> omega)))
theorem labelFlow_any (s1 v1 s2 v2 : Int) (w : World) :
    Calls Tryd.prog 82 #[.agg #[.int .i64 s1, .int .i64 v1], .agg #[.int .i64 s2, .int .i64 v2]] w fun e w' => e = .returned (.bool (flowB s1 v1 s2 v2)) ∧ Below w.heap.size w w' := by
  have t0 : Below w.heap.size w w := Below.refl _ _
  cases e1 : lblOk s1 v1
  · go_enter Tryd.func82, Tryd.ntmps82
    go_wp2_with fail
    refine (labelOk_any _ _ _).mono ?_
    rintro e w1 ⟨rfl, b1⟩
    have z1 := b1.size
    try simp at z1
    have z1_0 : w.heap.size < w1.heap.size := by omega
    have z1_1 : w.heap.size + 1 < w1.heap.size := by omega
    have t1 : Below w.heap.size w w1 := by
      refine Below.trans ?_ (b1.mono ?_)
      · (repeat (first | with_reducible exact t0 | (with_reducible refine Below.setCell ?_ ?_ _) | (with_reducible refine Below.alloc ?_ ?_ _) | with_reducible refine Below.drew ?_)); (all_goals (first | omega | (simp <;> omega)))
      · first | omega | (simp <;> omega)
    obtain ⟨c1, f1⟩ := bcell b1
    clear b1
    go_wp2_with fail
    go_ret
    refine ⟨ret_bool (by simp [flowB, e1]), t1⟩
  · cases e2 : lblOk s2 v2
    · go_enter Tryd.func82, Tryd.ntmps82
      go_wp2_with fail
      refine (labelOk_any _ _ _).mono ?_
      rintro e w1 ⟨rfl, b1⟩
      have z1 := b1.size
      try simp at z1
      have z1_0 : w.heap.size < w1.heap.size := by omega
      have z1_1 : w.heap.size + 1 < w1.heap.size := by omega
      have t1 : Below w.heap.size w w1 := by
        refine Below.trans ?_ (b1.mono ?_)
        · (repeat (first | with_reducible exact t0 | (with_reducible refine Below.setCell ?_ ?_ _) | (with_reducible refine Below.alloc ?_ ?_ _) | with_reducible refine Below.drew ?_)); (all_goals (first | omega | (simp <;> omega)))
        · first | omega | (simp <;> omega)
      obtain ⟨c1, f1⟩ := bcell b1
      clear b1
      go_wp2_with fail
      refine (labelOk_any _ _ _).mono ?_
      rintro e w2 ⟨rfl, b2⟩
      have z2 := b2.size
      try simp at z2
      have z2_0 : w.heap.size < w2.heap.size := by omega
      have z2_1 : w.heap.size + 1 < w2.heap.size := by omega
      have t2 : Below w.heap.size w w2 := by
        refine Below.trans ?_ (b2.mono ?_)
        · (repeat (first | with_reducible exact t1 | (with_reducible refine Below.setCell ?_ ?_ _) | (with_reducible refine Below.alloc ?_ ?_ _) | with_reducible refine Below.drew ?_)); (all_goals (first | omega | (simp <;> omega)))
        · first | omega | (simp <;> omega)
      obtain ⟨c2, f2⟩ := bcell b2
      clear b2
      go_wp2_with fail
      go_ret
      refine ⟨ret_bool (by simp [flowB, e2]), t2⟩
    · have f0 := lblOk_bd e1
      have g0 := lblOk_bd e2
      cases e3 : subB s1 s2
      · go_enter Tryd.func82, Tryd.ntmps82
        go_wp2_with fail
        refine (labelOk_any _ _ _).mono ?_
        rintro e w1 ⟨rfl, b1⟩
        have z1 := b1.size
        try simp at z1
        have z1_0 : w.heap.size < w1.heap.size := by omega
        have z1_1 : w.heap.size + 1 < w1.heap.size := by omega
        have t1 : Below w.heap.size w w1 := by
          refine Below.trans ?_ (b1.mono ?_)
          · (repeat (first | with_reducible exact t0 | (with_reducible refine Below.setCell ?_ ?_ _) | (with_reducible refine Below.alloc ?_ ?_ _) | with_reducible refine Below.drew ?_)); (all_goals (first | omega | (simp <;> omega)))
          · first | omega | (simp <;> omega)
        obtain ⟨c1, f1⟩ := bcell b1
        clear b1
        go_wp2_with fail
        refine (labelOk_any _ _ _).mono ?_
        rintro e w2 ⟨rfl, b2⟩
        have z2 := b2.size
        try simp at z2
        have z2_0 : w.heap.size < w2.heap.size := by omega
        have z2_1 : w.heap.size + 1 < w2.heap.size := by omega
        have t2 : Below w.heap.size w w2 := by
          refine Below.trans ?_ (b2.mono ?_)
          · (repeat (first | with_reducible exact t1 | (with_reducible refine Below.setCell ?_ ?_ _) | (with_reducible refine Below.alloc ?_ ?_ _) | with_reducible refine Below.drew ?_)); (all_goals (first | omega | (simp <;> omega)))
          · first | omega | (simp <;> omega)
        obtain ⟨c2, f2⟩ := bcell b2
        clear b2
        go_wp2_with fail
        refine (labelSets_any _ _ (by omega) (by omega) (by omega) (by omega) _).mono ?_
        rintro e w3 ⟨rfl, b3⟩
        have z3 := b3.size
        try simp at z3
        have z3_0 : w.heap.size < w3.heap.size := by omega
        have z3_1 : w.heap.size + 1 < w3.heap.size := by omega
        have t3 : Below w.heap.size w w3 := by
          refine Below.trans ?_ (b3.mono ?_)
          · (repeat (first | with_reducible exact t2 | (with_reducible refine Below.setCell ?_ ?_ _) | (with_reducible refine Below.alloc ?_ ?_ _) | with_reducible refine Below.drew ?_)); (all_goals (first | omega | (simp <;> omega)))
          · first | omega | (simp <;> omega)
        obtain ⟨c3, f3⟩ := bcell b3
        clear b3
        go_wp2_with fail
        refine (labelSets_any _ _ (by omega) (by omega) (by omega) (by omega) _).mono ?_
        rintro e w4 ⟨rfl, b4⟩
        have z4 := b4.size
        try simp at z4
        have z4_0 : w.heap.size < w4.heap.size := by omega
        have z4_1 : w.heap.size + 1 < w4.heap.size := by omega
        have t4 : Below w.heap.size w w4 := by
          refine Below.trans ?_ (b4.mono ?_)
          · (repeat (first | with_reducible exact t3 | (with_reducible refine Below.setCell ?_ ?_ _) | (with_reducible refine Below.alloc ?_ ?_ _) | with_reducible refine Below.drew ?_)); (all_goals (first | omega | (simp <;> omega)))
          · first | omega | (simp <;> omega)
        obtain ⟨c4, f4⟩ := bcell b4
        clear b4
        go_wp2_with fail
        refine (within_any _ _ (by omega) (by omega) (by omega) (by omega) _).mono ?_
        rintro e w' ⟨rfl, rfl⟩
        go_wp2_with fail
        go_ret
        refine ⟨ret_bool (by simp [flowB, e3]), t4⟩
      · go_enter Tryd.func82, Tryd.ntmps82
        go_wp2_with fail
        refine (labelOk_any _ _ _).mono ?_
        rintro e w1 ⟨rfl, b1⟩
        have z1 := b1.size
        try simp at z1
        have z1_0 : w.heap.size < w1.heap.size := by omega
        have z1_1 : w.heap.size + 1 < w1.heap.size := by omega
        have t1 : Below w.heap.size w w1 := by
          refine Below.trans ?_ (b1.mono ?_)
          · (repeat (first | with_reducible exact t0 | (with_reducible refine Below.setCell ?_ ?_ _) | (with_reducible refine Below.alloc ?_ ?_ _) | with_reducible refine Below.drew ?_)); (all_goals (first | omega | (simp <;> omega)))
          · first | omega | (simp <;> omega)
        obtain ⟨c1, f1⟩ := bcell b1
        clear b1
        go_wp2_with fail
        refine (labelOk_any _ _ _).mono ?_
        rintro e w2 ⟨rfl, b2⟩
        have z2 := b2.size
        try simp at z2
        have z2_0 : w.heap.size < w2.heap.size := by omega
        have z2_1 : w.heap.size + 1 < w2.heap.size := by omega
        have t2 : Below w.heap.size w w2 := by
          refine Below.trans ?_ (b2.mono ?_)
          · (repeat (first | with_reducible exact t1 | (with_reducible refine Below.setCell ?_ ?_ _) | (with_reducible refine Below.alloc ?_ ?_ _) | with_reducible refine Below.drew ?_)); (all_goals (first | omega | (simp <;> omega)))
          · first | omega | (simp <;> omega)
        obtain ⟨c2, f2⟩ := bcell b2
        clear b2
        go_wp2_with fail
        refine (labelSets_any _ _ (by omega) (by omega) (by omega) (by omega) _).mono ?_
        rintro e w3 ⟨rfl, b3⟩
        have z3 := b3.size
        try simp at z3
        have z3_0 : w.heap.size < w3.heap.size := by omega
        have z3_1 : w.heap.size + 1 < w3.heap.size := by omega
        have t3 : Below w.heap.size w w3 := by
          refine Below.trans ?_ (b3.mono ?_)
          · (repeat (first | with_reducible exact t2 | (with_reducible refine Below.setCell ?_ ?_ _) | (with_reducible refine Below.alloc ?_ ?_ _) | with_reducible refine Below.drew ?_)); (all_goals (first | omega | (simp <;> omega)))
          · first | omega | (simp <;> omega)
        obtain ⟨c3, f3⟩ := bcell b3
        clear b3
        go_wp2_with fail
        refine (labelSets_any _ _ (by omega) (by omega) (by omega) (by omega) _).mono ?_
        rintro e w4 ⟨rfl, b4⟩
        have z4 := b4.size
        try simp at z4
        have z4_0 : w.heap.size < w4.heap.size := by omega
        have z4_1 : w.heap.size + 1 < w4.heap.size := by omega
        have t4 : Below w.heap.size w w4 := by
          refine Below.trans ?_ (b4.mono ?_)
          · (repeat (first | with_reducible exact t3 | (with_reducible refine Below.setCell ?_ ?_ _) | (with_reducible refine Below.alloc ?_ ?_ _) | with_reducible refine Below.drew ?_)); (all_goals (first | omega | (simp <;> omega)))
          · first | omega | (simp <;> omega)
        obtain ⟨c4, f4⟩ := bcell b4
        clear b4
        go_wp2_with fail
        refine (within_any _ _ (by omega) (by omega) (by omega) (by omega) _).mono ?_
        rintro e w' ⟨rfl, rfl⟩
        go_wp2_with fail
        refine (within_any _ _ (by omega) (by omega) (by omega) (by omega) _).mono ?_
        rintro e w' ⟨rfl, rfl⟩
        go_wp2_with fail
        go_ret
        refine ⟨ret_bool (by simp [flowB, e1, e2, e3]), t4⟩
theorem eqLabel_any (s1 v1 s2 v2 : Int) (w : World) :
    Calls Tryd.prog 75 #[.agg #[.int .i64 s1, .int .i64 v1], .agg #[.int .i64 s2, .int .i64 v2]] w fun e w' => e = .returned (.bool (lblEq s1 v1 s2 v2)) ∧ Below w.heap.size w w' := by
  have t0 : Below w.heap.size w w := Below.refl _ _
  go_enter Tryd.func75, Tryd.ntmps75
  go_wp2
  all_goals
    go_ret
    refine ⟨ret_bool (by simp_all [lblEq]), ?_⟩
    (repeat (first | with_reducible exact t0 | (with_reducible refine Below.setCell ?_ ?_ _) | (with_reducible refine Below.alloc ?_ ?_ _) | with_reducible refine Below.drew ?_)); (all_goals (first | omega | (simp <;> omega)))
end Go.Proofs.YtcgmnpppdoadhaaDoor
