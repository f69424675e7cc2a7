/- Contracts of the functions on labels, of the program and of the reference: flow, join, meet. Each computes its plain function and makes at most new blocks. No condition (the inner ones: marks from 0 to 3). -/
import Derived.Test.YtmgikgcoigcadaaOk
import Derived.Deep.QuietTactic
import Derived.BigQuiet
import Derived.StillTailTactics
namespace Go.Proofs.Ytmgikgcoigcadaa
open Go.RowKit
set_option linter.unusedVariables false

theorem within_any (a b : Int) (h0 : 0 ≤ a) (h1 : a ≤ 3) (h2 : 0 ≤ b) (h3 : b ≤ 3) (w : World) :
    Calls Try.prog 34 #[.int .u64 a, .int .u64 b] w fun e w' => e = .returned (.bool (subB a b)) ∧ w = w' := by
  have e := andNot_sub h0 h1 h2 h3
  go_enter Try.func34, Try.ntmps34
  go_wp2
  go_ret
  exact ⟨rfl, rfl⟩
theorem labelSets_any (a b : Int) (h0 : 0 ≤ a) (h1 : a ≤ 3) (h2 : 0 ≤ b) (h3 : b ≤ 3) (w : World) :
    Calls Try.prog 28 #[.agg #[.int .i64 a, .int .i64 b]] w fun e w' => e = .returned (.tuple #[.int .u64 a, .int .u64 b]) ∧ Below w.heap.size w w' := by
  go_enter Try.func28, Try.ntmps28
  go_wp2
  go_quiet (fail)
  go_wp2
  go_ret2
  exact ⟨rfl, below_drewN ((Below.refl _ _).alloc (Nat.le_refl _) _) _⟩
theorem labelOf_any (a b : Int) (h0 : 0 ≤ a) (h1 : a ≤ 3) (h2 : 0 ≤ b) (h3 : b ≤ 3) (w : World) :
    Calls Try.prog 29 #[.int .u64 a, .int .u64 b] w fun e w' => e = .returned (.agg #[.int .i64 a, .int .i64 b]) ∧ Below w.heap.size w w' := by
  go_enter Try.func29, Try.ntmps29
  go_wp2
  exact bodyPost_ret (v := .agg #[.int .i64 a, .int .i64 b]) (by simp [results, Try.results29, go_sem]) rfl
    ⟨rfl, (Below.refl _ _).alloc (Nat.le_refl _) _⟩
theorem l1In_any (a b : Int) (h0 : 0 ≤ a) (h1 : a ≤ 3) (h2 : 0 ≤ b) (h3 : b ≤ 3) (w : World) :
    Calls Try.prog 42 #[.int .i64 a, .int .i64 b] w fun e w' => e = .returned (.bool (subB a b)) ∧ w = w' := by
  go_enter Try.func42, Try.ntmps42
  go_wp2
  all_goals
    go_ret
    exact ⟨ret_bool (by simp [subB, *]; try omega), rfl⟩
theorem l1Or_any (a b : Int) (h0 : 0 ≤ a) (h1 : a ≤ 3) (h2 : 0 ≤ b) (h3 : b ≤ 3) (w : World) :
    Calls Try.prog 30 #[.int .i64 a, .int .i64 b] w fun e w' => e = .returned (.int .i64 (orI a b)) ∧ w = w' := by
  go_enter Try.func30, Try.ntmps30
  go_wp2
  all_goals
    go_ret
    exact ⟨ret_int (by unfold orI; omega), rfl⟩
theorem l1And_any (a b : Int) (h0 : 0 ≤ a) (h1 : a ≤ 3) (h2 : 0 ≤ b) (h3 : b ≤ 3) (w : World) :
    Calls Try.prog 31 #[.int .i64 a, .int .i64 b] w fun e w' => e = .returned (.int .i64 (andI a b)) ∧ w = w' := by
  go_enter Try.func31, Try.ntmps31
  go_wp2
  all_goals
    go_ret
    exact ⟨ret_int (by unfold andI; omega), rfl⟩
theorem l1Flow_any (s1 v1 s2 v2 : Int) (h0 : 0 ≤ s1) (h1 : s1 ≤ 3) (h2 : 0 ≤ v1) (h3 : v1 ≤ 3) (h4 : 0 ≤ s2) (h5 : s2 ≤ 3) (h6 : 0 ≤ v2) (h7 : v2 ≤ 3) (w : World) :
    Calls Try.prog 35 #[.agg #[.int .i64 s1, .int .i64 v1], .agg #[.int .i64 s2, .int .i64 v2]] w fun e w' => e = .returned (.bool (subB s1 s2 && subB v2 v1)) ∧ Below w.heap.size w w' := by
  have t0 : Below w.heap.size w w := Below.refl _ _
  go_enter Try.func35, Try.ntmps35
  cases e1 : subB s1 s2
  · go_wp2_with fail
    refine (l1In_any _ _ h0 h1 h4 h5 _).mono ?_
    rintro e w' ⟨rfl, rfl⟩
    go_wp2_with fail
    go_ret
    refine ⟨ret_bool (by simp), ?_⟩
    (repeat (first | with_reducible exact t0 | (with_reducible refine Below.setCell ?_ ?_ _) | (with_reducible refine Below.alloc ?_ ?_ _) | with_reducible refine Below.drew ?_)); (all_goals (first | omega | (simp <;> omega)))
  · go_wp2_with fail
    refine (l1In_any _ _ h0 h1 h4 h5 _).mono ?_
    rintro e w' ⟨rfl, rfl⟩
    go_wp2_with fail
    refine (l1In_any _ _ h6 h7 h2 h3 _).mono ?_
    rintro e w' ⟨rfl, rfl⟩
    go_wp2_with fail
    go_ret
    refine ⟨ret_bool (by simp), ?_⟩
    (repeat (first | with_reducible exact t0 | (with_reducible refine Below.setCell ?_ ?_ _) | (with_reducible refine Below.alloc ?_ ?_ _) | with_reducible refine Below.drew ?_)); (all_goals (first | omega | (simp <;> omega)))
theorem slabelFlow_any (s1 v1 s2 v2 : Int) (w : World) :
    Calls Try.prog 18 #[.agg #[.int .i64 s1, .int .i64 v1], .agg #[.int .i64 s2, .int .i64 v2]] w fun e w' => e = .returned (.bool (flowB s1 v1 s2 v2)) ∧ Below w.heap.size w w' := by
  have t0 : Below w.heap.size w w := Below.refl _ _
  cases e1 : lblOk s1 v1
  · go_enter Try.func18, Try.ntmps18
    go_wp2_with fail
    refine (slabelOk_any _ _ _).mono ?_
    rintro e w1 ⟨rfl, b1⟩
    have z1 := b1.size
    try simp at z1
    have z1_0 : w.heap.size < w1.heap.size := by omega
    have z1_1 : w.heap.size + 1 < w1.heap.size := by omega
    have t1 : Below w.heap.size w w1 := by
      refine Below.trans ?_ (b1.mono ?_)
      · (repeat (first | with_reducible exact t0 | (with_reducible refine Below.setCell ?_ ?_ _) | (with_reducible refine Below.alloc ?_ ?_ _) | with_reducible refine Below.drew ?_)); (all_goals (first | omega | (simp <;> omega)))
      · first | omega | (simp <;> omega)
    obtain ⟨c1, f1⟩ := bcell b1
    clear b1
    go_wp2_with fail
    go_ret
    refine ⟨ret_bool (by simp [flowB, e1]), t1⟩
  · cases e2 : lblOk s2 v2
    · go_enter Try.func18, Try.ntmps18
      go_wp2_with fail
      refine (slabelOk_any _ _ _).mono ?_
      rintro e w1 ⟨rfl, b1⟩
      have z1 := b1.size
      try simp at z1
      have z1_0 : w.heap.size < w1.heap.size := by omega
      have z1_1 : w.heap.size + 1 < w1.heap.size := by omega
      have t1 : Below w.heap.size w w1 := by
        refine Below.trans ?_ (b1.mono ?_)
        · (repeat (first | with_reducible exact t0 | (with_reducible refine Below.setCell ?_ ?_ _) | (with_reducible refine Below.alloc ?_ ?_ _) | with_reducible refine Below.drew ?_)); (all_goals (first | omega | (simp <;> omega)))
        · first | omega | (simp <;> omega)
      obtain ⟨c1, f1⟩ := bcell b1
      clear b1
      go_wp2_with fail
      refine (slabelOk_any _ _ _).mono ?_
      rintro e w2 ⟨rfl, b2⟩
      have z2 := b2.size
      try simp at z2
      have z2_0 : w.heap.size < w2.heap.size := by omega
      have z2_1 : w.heap.size + 1 < w2.heap.size := by omega
      have t2 : Below w.heap.size w w2 := by
        refine Below.trans ?_ (b2.mono ?_)
        · (repeat (first | with_reducible exact t1 | (with_reducible refine Below.setCell ?_ ?_ _) | (with_reducible refine Below.alloc ?_ ?_ _) | with_reducible refine Below.drew ?_)); (all_goals (first | omega | (simp <;> omega)))
        · first | omega | (simp <;> omega)
      obtain ⟨c2, f2⟩ := bcell b2
      clear b2
      go_wp2_with fail
      go_ret
      refine ⟨ret_bool (by simp [flowB, e2]), t2⟩
    · have f0 := lblOk_bd e1
      have g0 := lblOk_bd e2
      go_enter Try.func18, Try.ntmps18
      go_wp2_with fail
      refine (slabelOk_any _ _ _).mono ?_
      rintro e w1 ⟨rfl, b1⟩
      have z1 := b1.size
      try simp at z1
      have z1_0 : w.heap.size < w1.heap.size := by omega
      have z1_1 : w.heap.size + 1 < w1.heap.size := by omega
      have t1 : Below w.heap.size w w1 := by
        refine Below.trans ?_ (b1.mono ?_)
        · (repeat (first | with_reducible exact t0 | (with_reducible refine Below.setCell ?_ ?_ _) | (with_reducible refine Below.alloc ?_ ?_ _) | with_reducible refine Below.drew ?_)); (all_goals (first | omega | (simp <;> omega)))
        · first | omega | (simp <;> omega)
      obtain ⟨c1, f1⟩ := bcell b1
      clear b1
      go_wp2_with fail
      refine (slabelOk_any _ _ _).mono ?_
      rintro e w2 ⟨rfl, b2⟩
      have z2 := b2.size
      try simp at z2
      have z2_0 : w.heap.size < w2.heap.size := by omega
      have z2_1 : w.heap.size + 1 < w2.heap.size := by omega
      have t2 : Below w.heap.size w w2 := by
        refine Below.trans ?_ (b2.mono ?_)
        · (repeat (first | with_reducible exact t1 | (with_reducible refine Below.setCell ?_ ?_ _) | (with_reducible refine Below.alloc ?_ ?_ _) | with_reducible refine Below.drew ?_)); (all_goals (first | omega | (simp <;> omega)))
        · first | omega | (simp <;> omega)
      obtain ⟨c2, f2⟩ := bcell b2
      clear b2
      go_wp2_with fail
      refine (l1Flow_any _ _ _ _ (by omega) (by omega) (by omega) (by omega) (by omega) (by omega) (by omega) (by omega) _).mono ?_
      rintro e w3 ⟨rfl, b3⟩
      have z3 := b3.size
      try simp at z3
      have z3_0 : w.heap.size < w3.heap.size := by omega
      have z3_1 : w.heap.size + 1 < w3.heap.size := by omega
      have t3 : Below w.heap.size w w3 := by
        refine Below.trans ?_ (b3.mono ?_)
        · (repeat (first | with_reducible exact t2 | (with_reducible refine Below.setCell ?_ ?_ _) | (with_reducible refine Below.alloc ?_ ?_ _) | with_reducible refine Below.drew ?_)); (all_goals (first | omega | (simp <;> omega)))
        · first | omega | (simp <;> omega)
      obtain ⟨c3, f3⟩ := bcell b3
      clear b3
      go_wp2_with fail
      go_ret
      refine ⟨ret_bool (by simp [flowB, e1, e2]), t3⟩
theorem labelFlow_any (s1 v1 s2 v2 : Int) (w : World) :
    Calls Try.prog 17 #[.agg #[.int .i64 s1, .int .i64 v1], .agg #[.int .i64 s2, .int .i64 v2]] w fun e w' => e = .returned (.bool (flowB s1 v1 s2 v2)) ∧ Below w.heap.size w w' := by
  have t0 : Below w.heap.size w w := Below.refl _ _
  cases e1 : lblOk s1 v1
  · go_enter Try.func17, Try.ntmps17
    go_wp2_with fail
    refine (labelOk_any _ _ _).mono ?_
    rintro e w1 ⟨rfl, b1⟩
    have z1 := b1.size
    try simp at z1
    have z1_0 : w.heap.size < w1.heap.size := by omega
    have z1_1 : w.heap.size + 1 < w1.heap.size := by omega
    have t1 : Below w.heap.size w w1 := by
      refine Below.trans ?_ (b1.mono ?_)
      · (repeat (first | with_reducible exact t0 | (with_reducible refine Below.setCell ?_ ?_ _) | (with_reducible refine Below.alloc ?_ ?_ _) | with_reducible refine Below.drew ?_)); (all_goals (first | omega | (simp <;> omega)))
      · first | omega | (simp <;> omega)
    obtain ⟨c1, f1⟩ := bcell b1
    clear b1
    go_wp2_with fail
    go_ret
    refine ⟨ret_bool (by simp [flowB, e1]), t1⟩
  · cases e2 : lblOk s2 v2
    · go_enter Try.func17, Try.ntmps17
      go_wp2_with fail
      refine (labelOk_any _ _ _).mono ?_
      rintro e w1 ⟨rfl, b1⟩
      have z1 := b1.size
      try simp at z1
      have z1_0 : w.heap.size < w1.heap.size := by omega
      have z1_1 : w.heap.size + 1 < w1.heap.size := by omega
      have t1 : Below w.heap.size w w1 := by
        refine Below.trans ?_ (b1.mono ?_)
        · (repeat (first | with_reducible exact t0 | (with_reducible refine Below.setCell ?_ ?_ _) | (with_reducible refine Below.alloc ?_ ?_ _) | with_reducible refine Below.drew ?_)); (all_goals (first | omega | (simp <;> omega)))
        · first | omega | (simp <;> omega)
      obtain ⟨c1, f1⟩ := bcell b1
      clear b1
      go_wp2_with fail
      refine (labelOk_any _ _ _).mono ?_
      rintro e w2 ⟨rfl, b2⟩
      have z2 := b2.size
      try simp at z2
      have z2_0 : w.heap.size < w2.heap.size := by omega
      have z2_1 : w.heap.size + 1 < w2.heap.size := by omega
      have t2 : Below w.heap.size w w2 := by
        refine Below.trans ?_ (b2.mono ?_)
        · (repeat (first | with_reducible exact t1 | (with_reducible refine Below.setCell ?_ ?_ _) | (with_reducible refine Below.alloc ?_ ?_ _) | with_reducible refine Below.drew ?_)); (all_goals (first | omega | (simp <;> omega)))
        · first | omega | (simp <;> omega)
      obtain ⟨c2, f2⟩ := bcell b2
      clear b2
      go_wp2_with fail
      go_ret
      refine ⟨ret_bool (by simp [flowB, e2]), t2⟩
    · have f0 := lblOk_bd e1
      have g0 := lblOk_bd e2
      cases e3 : subB s1 s2
      · go_enter Try.func17, Try.ntmps17
        go_wp2_with fail
        refine (labelOk_any _ _ _).mono ?_
        rintro e w1 ⟨rfl, b1⟩
        have z1 := b1.size
        try simp at z1
        have z1_0 : w.heap.size < w1.heap.size := by omega
        have z1_1 : w.heap.size + 1 < w1.heap.size := by omega
        have t1 : Below w.heap.size w w1 := by
          refine Below.trans ?_ (b1.mono ?_)
          · (repeat (first | with_reducible exact t0 | (with_reducible refine Below.setCell ?_ ?_ _) | (with_reducible refine Below.alloc ?_ ?_ _) | with_reducible refine Below.drew ?_)); (all_goals (first | omega | (simp <;> omega)))
          · first | omega | (simp <;> omega)
        obtain ⟨c1, f1⟩ := bcell b1
        clear b1
        go_wp2_with fail
        refine (labelOk_any _ _ _).mono ?_
        rintro e w2 ⟨rfl, b2⟩
        have z2 := b2.size
        try simp at z2
        have z2_0 : w.heap.size < w2.heap.size := by omega
        have z2_1 : w.heap.size + 1 < w2.heap.size := by omega
        have t2 : Below w.heap.size w w2 := by
          refine Below.trans ?_ (b2.mono ?_)
          · (repeat (first | with_reducible exact t1 | (with_reducible refine Below.setCell ?_ ?_ _) | (with_reducible refine Below.alloc ?_ ?_ _) | with_reducible refine Below.drew ?_)); (all_goals (first | omega | (simp <;> omega)))
          · first | omega | (simp <;> omega)
        obtain ⟨c2, f2⟩ := bcell b2
        clear b2
        go_wp2_with fail
        refine (labelSets_any _ _ (by omega) (by omega) (by omega) (by omega) _).mono ?_
        rintro e w3 ⟨rfl, b3⟩
        have z3 := b3.size
        try simp at z3
        have z3_0 : w.heap.size < w3.heap.size := by omega
        have z3_1 : w.heap.size + 1 < w3.heap.size := by omega
        have t3 : Below w.heap.size w w3 := by
          refine Below.trans ?_ (b3.mono ?_)
          · (repeat (first | with_reducible exact t2 | (with_reducible refine Below.setCell ?_ ?_ _) | (with_reducible refine Below.alloc ?_ ?_ _) | with_reducible refine Below.drew ?_)); (all_goals (first | omega | (simp <;> omega)))
          · first | omega | (simp <;> omega)
        obtain ⟨c3, f3⟩ := bcell b3
        clear b3
        go_wp2_with fail
        refine (labelSets_any _ _ (by omega) (by omega) (by omega) (by omega) _).mono ?_
        rintro e w4 ⟨rfl, b4⟩
        have z4 := b4.size
        try simp at z4
        have z4_0 : w.heap.size < w4.heap.size := by omega
        have z4_1 : w.heap.size + 1 < w4.heap.size := by omega
        have t4 : Below w.heap.size w w4 := by
          refine Below.trans ?_ (b4.mono ?_)
          · (repeat (first | with_reducible exact t3 | (with_reducible refine Below.setCell ?_ ?_ _) | (with_reducible refine Below.alloc ?_ ?_ _) | with_reducible refine Below.drew ?_)); (all_goals (first | omega | (simp <;> omega)))
          · first | omega | (simp <;> omega)
        obtain ⟨c4, f4⟩ := bcell b4
        clear b4
        go_wp2_with fail
        refine (within_any _ _ (by omega) (by omega) (by omega) (by omega) _).mono ?_
        rintro e w' ⟨rfl, rfl⟩
        go_wp2_with fail
        go_ret
        refine ⟨ret_bool (by simp [flowB, e3]), t4⟩
      · go_enter Try.func17, Try.ntmps17
        go_wp2_with fail
        refine (labelOk_any _ _ _).mono ?_
        rintro e w1 ⟨rfl, b1⟩
        have z1 := b1.size
        try simp at z1
        have z1_0 : w.heap.size < w1.heap.size := by omega
        have z1_1 : w.heap.size + 1 < w1.heap.size := by omega
        have t1 : Below w.heap.size w w1 := by
          refine Below.trans ?_ (b1.mono ?_)
          · (repeat (first | with_reducible exact t0 | (with_reducible refine Below.setCell ?_ ?_ _) | (with_reducible refine Below.alloc ?_ ?_ _) | with_reducible refine Below.drew ?_)); (all_goals (first | omega | (simp <;> omega)))
          · first | omega | (simp <;> omega)
        obtain ⟨c1, f1⟩ := bcell b1
        clear b1
        go_wp2_with fail
        refine (labelOk_any _ _ _).mono ?_
        rintro e w2 ⟨rfl, b2⟩
        have z2 := b2.size
        try simp at z2
        have z2_0 : w.heap.size < w2.heap.size := by omega
        have z2_1 : w.heap.size + 1 < w2.heap.size := by omega
        have t2 : Below w.heap.size w w2 := by
          refine Below.trans ?_ (b2.mono ?_)
          · (repeat (first | with_reducible exact t1 | (with_reducible refine Below.setCell ?_ ?_ _) | (with_reducible refine Below.alloc ?_ ?_ _) | with_reducible refine Below.drew ?_)); (all_goals (first | omega | (simp <;> omega)))
          · first | omega | (simp <;> omega)
        obtain ⟨c2, f2⟩ := bcell b2
        clear b2
        go_wp2_with fail
        refine (labelSets_any _ _ (by omega) (by omega) (by omega) (by omega) _).mono ?_
        rintro e w3 ⟨rfl, b3⟩
        have z3 := b3.size
        try simp at z3
        have z3_0 : w.heap.size < w3.heap.size := by omega
        have z3_1 : w.heap.size + 1 < w3.heap.size := by omega
        have t3 : Below w.heap.size w w3 := by
          refine Below.trans ?_ (b3.mono ?_)
          · (repeat (first | with_reducible exact t2 | (with_reducible refine Below.setCell ?_ ?_ _) | (with_reducible refine Below.alloc ?_ ?_ _) | with_reducible refine Below.drew ?_)); (all_goals (first | omega | (simp <;> omega)))
          · first | omega | (simp <;> omega)
        obtain ⟨c3, f3⟩ := bcell b3
        clear b3
        go_wp2_with fail
        refine (labelSets_any _ _ (by omega) (by omega) (by omega) (by omega) _).mono ?_
        rintro e w4 ⟨rfl, b4⟩
        have z4 := b4.size
        try simp at z4
        have z4_0 : w.heap.size < w4.heap.size := by omega
        have z4_1 : w.heap.size + 1 < w4.heap.size := by omega
        have t4 : Below w.heap.size w w4 := by
          refine Below.trans ?_ (b4.mono ?_)
          · (repeat (first | with_reducible exact t3 | (with_reducible refine Below.setCell ?_ ?_ _) | (with_reducible refine Below.alloc ?_ ?_ _) | with_reducible refine Below.drew ?_)); (all_goals (first | omega | (simp <;> omega)))
          · first | omega | (simp <;> omega)
        obtain ⟨c4, f4⟩ := bcell b4
        clear b4
        go_wp2_with fail
        refine (within_any _ _ (by omega) (by omega) (by omega) (by omega) _).mono ?_
        rintro e w' ⟨rfl, rfl⟩
        go_wp2_with fail
        refine (within_any _ _ (by omega) (by omega) (by omega) (by omega) _).mono ?_
        rintro e w' ⟨rfl, rfl⟩
        go_wp2_with fail
        go_ret
        refine ⟨ret_bool (by simp [flowB, e1, e2, e3]), t4⟩
theorem labelJoin_any (s1 v1 s2 v2 : Int) (w : World) :
    Calls Try.prog 12 #[.agg #[.int .i64 s1, .int .i64 v1], .agg #[.int .i64 s2, .int .i64 v2]] w fun e w' => e = .returned (.agg #[.int .i64 (joinS s1 v1 s2 v2), .int .i64 (joinV s1 v1 s2 v2)]) ∧ Below w.heap.size w w' := by
  have t0 : Below w.heap.size w w := Below.refl _ _
  cases e1 : lblOk s1 v1
  · have q1 : joinS s1 v1 s2 v2 = 0 := by simp [joinS, e1]
    have q2 : joinV s1 v1 s2 v2 = 0 := by simp [joinV, e1]
    rw [q1, q2]
    clear q1 q2
    go_enter Try.func12, Try.ntmps12
    go_wp2_with fail
    refine (labelOk_any _ _ _).mono ?_
    rintro e w1 ⟨rfl, b1⟩
    have z1 := b1.size
    try simp at z1
    have z1_0 : w.heap.size < w1.heap.size := by omega
    have z1_1 : w.heap.size + 1 < w1.heap.size := by omega
    have z1_2 : w.heap.size + 1 + 1 < w1.heap.size := by omega
    have t1 : Below w.heap.size w w1 := by
      refine Below.trans ?_ (b1.mono ?_)
      · (repeat (first | with_reducible exact t0 | (with_reducible refine Below.setCell ?_ ?_ _) | (with_reducible refine Below.alloc ?_ ?_ _) | with_reducible refine Below.drew ?_)); (all_goals (first | omega | (simp <;> omega)))
      · first | omega | (simp <;> omega)
    obtain ⟨c1, f1⟩ := bcell b1
    have o0 : w1.cell? ⟨w.heap.size + 1 + 1, 0, none⟩ = some (.int .i64 0) := by go_simp
    have o1 : w1.cell? ⟨w.heap.size + 1 + 1, 1, none⟩ = some (.int .i64 0) := by go_simp
    go_wp2_with fail
    refine bodyPost_ret (v := .agg #[.int .i64 0, .int .i64 0]) (by simp only [results, Try.results12]; go_simp) rfl ⟨rfl, ?_⟩
    (repeat (first | with_reducible exact t1 | (with_reducible refine Below.setCell ?_ ?_ _) | (with_reducible refine Below.alloc ?_ ?_ _) | with_reducible refine Below.drew ?_)); (all_goals (first | omega | (simp <;> omega)))
  · cases e2 : lblOk s2 v2
    · have q1 : joinS s1 v1 s2 v2 = 0 := by simp [joinS, e2]
      have q2 : joinV s1 v1 s2 v2 = 0 := by simp [joinV, e2]
      rw [q1, q2]
      clear q1 q2
      go_enter Try.func12, Try.ntmps12
      go_wp2_with fail
      refine (labelOk_any _ _ _).mono ?_
      rintro e w1 ⟨rfl, b1⟩
      have z1 := b1.size
      try simp at z1
      have z1_0 : w.heap.size < w1.heap.size := by omega
      have z1_1 : w.heap.size + 1 < w1.heap.size := by omega
      have z1_2 : w.heap.size + 1 + 1 < w1.heap.size := by omega
      have t1 : Below w.heap.size w w1 := by
        refine Below.trans ?_ (b1.mono ?_)
        · (repeat (first | with_reducible exact t0 | (with_reducible refine Below.setCell ?_ ?_ _) | (with_reducible refine Below.alloc ?_ ?_ _) | with_reducible refine Below.drew ?_)); (all_goals (first | omega | (simp <;> omega)))
        · first | omega | (simp <;> omega)
      obtain ⟨c1, f1⟩ := bcell b1
      clear b1
      go_wp2_with fail
      refine (labelOk_any _ _ _).mono ?_
      rintro e w2 ⟨rfl, b2⟩
      have z2 := b2.size
      try simp at z2
      have z2_0 : w.heap.size < w2.heap.size := by omega
      have z2_1 : w.heap.size + 1 < w2.heap.size := by omega
      have z2_2 : w.heap.size + 1 + 1 < w2.heap.size := by omega
      have t2 : Below w.heap.size w w2 := by
        refine Below.trans ?_ (b2.mono ?_)
        · (repeat (first | with_reducible exact t1 | (with_reducible refine Below.setCell ?_ ?_ _) | (with_reducible refine Below.alloc ?_ ?_ _) | with_reducible refine Below.drew ?_)); (all_goals (first | omega | (simp <;> omega)))
        · first | omega | (simp <;> omega)
      obtain ⟨c2, f2⟩ := bcell b2
      have o0 : w2.cell? ⟨w.heap.size + 1 + 1, 0, none⟩ = some (.int .i64 0) := by go_simp
      have o1 : w2.cell? ⟨w.heap.size + 1 + 1, 1, none⟩ = some (.int .i64 0) := by go_simp
      go_wp2_with fail
      refine bodyPost_ret (v := .agg #[.int .i64 0, .int .i64 0]) (by simp only [results, Try.results12]; go_simp) rfl ⟨rfl, ?_⟩
      (repeat (first | with_reducible exact t2 | (with_reducible refine Below.setCell ?_ ?_ _) | (with_reducible refine Below.alloc ?_ ?_ _) | with_reducible refine Below.drew ?_)); (all_goals (first | omega | (simp <;> omega)))
    · have f0 := lblOk_bd e1
      have g0 := lblOk_bd e2
      have q1 : joinS s1 v1 s2 v2 = orI s1 s2 := by simp [joinS, e1, e2]
      have q2 : joinV s1 v1 s2 v2 = andI v1 v2 := by simp [joinV, e1, e2]
      rw [q1, q2]
      clear q1 q2
      have p1 := or_orI (a := s1) (b := s2) (by omega) (by omega) (by omega) (by omega)
      have p2 := and_andI (a := v1) (b := v2) (by omega) (by omega) (by omega) (by omega)
      have p3 := orI_bd (a := s1) (b := s2) (by omega) (by omega) (by omega) (by omega)
      have p4 := andI_bd (a := v1) (b := v2) (by omega) (by omega) (by omega) (by omega)
      go_enter Try.func12, Try.ntmps12
      go_wp2_with fail
      refine (labelOk_any _ _ _).mono ?_
      rintro e w1 ⟨rfl, b1⟩
      have z1 := b1.size
      try simp at z1
      have z1_0 : w.heap.size < w1.heap.size := by omega
      have z1_1 : w.heap.size + 1 < w1.heap.size := by omega
      have z1_2 : w.heap.size + 1 + 1 < w1.heap.size := by omega
      have t1 : Below w.heap.size w w1 := by
        refine Below.trans ?_ (b1.mono ?_)
        · (repeat (first | with_reducible exact t0 | (with_reducible refine Below.setCell ?_ ?_ _) | (with_reducible refine Below.alloc ?_ ?_ _) | with_reducible refine Below.drew ?_)); (all_goals (first | omega | (simp <;> omega)))
        · first | omega | (simp <;> omega)
      obtain ⟨c1, f1⟩ := bcell b1
      clear b1
      go_wp2_with fail
      refine (labelOk_any _ _ _).mono ?_
      rintro e w2 ⟨rfl, b2⟩
      have z2 := b2.size
      try simp at z2
      have z2_0 : w.heap.size < w2.heap.size := by omega
      have z2_1 : w.heap.size + 1 < w2.heap.size := by omega
      have z2_2 : w.heap.size + 1 + 1 < w2.heap.size := by omega
      have t2 : Below w.heap.size w w2 := by
        refine Below.trans ?_ (b2.mono ?_)
        · (repeat (first | with_reducible exact t1 | (with_reducible refine Below.setCell ?_ ?_ _) | (with_reducible refine Below.alloc ?_ ?_ _) | with_reducible refine Below.drew ?_)); (all_goals (first | omega | (simp <;> omega)))
        · first | omega | (simp <;> omega)
      obtain ⟨c2, f2⟩ := bcell b2
      clear b2
      go_wp2_with fail
      refine (labelSets_any _ _ (by omega) (by omega) (by omega) (by omega) _).mono ?_
      rintro e w3 ⟨rfl, b3⟩
      have z3 := b3.size
      try simp at z3
      have z3_0 : w.heap.size < w3.heap.size := by omega
      have z3_1 : w.heap.size + 1 < w3.heap.size := by omega
      have z3_2 : w.heap.size + 1 + 1 < w3.heap.size := by omega
      have t3 : Below w.heap.size w w3 := by
        refine Below.trans ?_ (b3.mono ?_)
        · (repeat (first | with_reducible exact t2 | (with_reducible refine Below.setCell ?_ ?_ _) | (with_reducible refine Below.alloc ?_ ?_ _) | with_reducible refine Below.drew ?_)); (all_goals (first | omega | (simp <;> omega)))
        · first | omega | (simp <;> omega)
      obtain ⟨c3, f3⟩ := bcell b3
      clear b3
      go_wp2_with fail
      refine (labelSets_any _ _ (by omega) (by omega) (by omega) (by omega) _).mono ?_
      rintro e w4 ⟨rfl, b4⟩
      have z4 := b4.size
      try simp at z4
      have z4_0 : w.heap.size < w4.heap.size := by omega
      have z4_1 : w.heap.size + 1 < w4.heap.size := by omega
      have z4_2 : w.heap.size + 1 + 1 < w4.heap.size := by omega
      have t4 : Below w.heap.size w w4 := by
        refine Below.trans ?_ (b4.mono ?_)
        · (repeat (first | with_reducible exact t3 | (with_reducible refine Below.setCell ?_ ?_ _) | (with_reducible refine Below.alloc ?_ ?_ _) | with_reducible refine Below.drew ?_)); (all_goals (first | omega | (simp <;> omega)))
        · first | omega | (simp <;> omega)
      obtain ⟨c4, f4⟩ := bcell b4
      clear b4
      go_wp2_with fail
      refine (labelOf_any _ _ p3.1 p3.2 p4.1 p4.2 _).mono ?_
      rintro e w5 ⟨rfl, b5⟩
      have z5 := b5.size
      try simp at z5
      have z5_0 : w.heap.size < w5.heap.size := by omega
      have z5_1 : w.heap.size + 1 < w5.heap.size := by omega
      have z5_2 : w.heap.size + 1 + 1 < w5.heap.size := by omega
      have t5 : Below w.heap.size w w5 := by
        refine Below.trans ?_ (b5.mono ?_)
        · (repeat (first | with_reducible exact t4 | (with_reducible refine Below.setCell ?_ ?_ _) | (with_reducible refine Below.alloc ?_ ?_ _) | with_reducible refine Below.drew ?_)); (all_goals (first | omega | (simp <;> omega)))
        · first | omega | (simp <;> omega)
      obtain ⟨c5, f5⟩ := bcell b5
      have o0 : w5.cell? ⟨w.heap.size + 1 + 1, 0, none⟩ = some (.int .i64 0) := by go_simp
      have o1 : w5.cell? ⟨w.heap.size + 1 + 1, 1, none⟩ = some (.int .i64 0) := by go_simp
      go_wp2_with fail
      refine bodyPost_ret (v := .agg #[.int .i64 (orI s1 s2), .int .i64 (andI v1 v2)]) (by simp only [results, Try.results12]; go_simp) rfl ⟨rfl, ?_⟩
      (repeat (first | with_reducible exact t5 | (with_reducible refine Below.setCell ?_ ?_ _) | (with_reducible refine Below.alloc ?_ ?_ _) | with_reducible refine Below.drew ?_)); (all_goals (first | omega | (simp <;> omega)))
theorem slabelJoin_any (s1 v1 s2 v2 : Int) (w : World) :
    Calls Try.prog 13 #[.agg #[.int .i64 s1, .int .i64 v1], .agg #[.int .i64 s2, .int .i64 v2]] w fun e w' => e = .returned (.agg #[.int .i64 (joinS s1 v1 s2 v2), .int .i64 (joinV s1 v1 s2 v2)]) ∧ Below w.heap.size w w' := by
  have t0 : Below w.heap.size w w := Below.refl _ _
  cases e1 : lblOk s1 v1
  · have q1 : joinS s1 v1 s2 v2 = 0 := by simp [joinS, e1]
    have q2 : joinV s1 v1 s2 v2 = 0 := by simp [joinV, e1]
    rw [q1, q2]
    clear q1 q2
    go_enter Try.func13, Try.ntmps13
    go_wp2_with fail
    refine (slabelOk_any _ _ _).mono ?_
    rintro e w1 ⟨rfl, b1⟩
    have z1 := b1.size
    try simp at z1
    have z1_0 : w.heap.size < w1.heap.size := by omega
    have z1_1 : w.heap.size + 1 < w1.heap.size := by omega
    have z1_2 : w.heap.size + 1 + 1 < w1.heap.size := by omega
    have t1 : Below w.heap.size w w1 := by
      refine Below.trans ?_ (b1.mono ?_)
      · (repeat (first | with_reducible exact t0 | (with_reducible refine Below.setCell ?_ ?_ _) | (with_reducible refine Below.alloc ?_ ?_ _) | with_reducible refine Below.drew ?_)); (all_goals (first | omega | (simp <;> omega)))
      · first | omega | (simp <;> omega)
    obtain ⟨c1, f1⟩ := bcell b1
    have o0 : w1.cell? ⟨w.heap.size + 1 + 1, 0, none⟩ = some (.int .i64 0) := by go_simp
    have o1 : w1.cell? ⟨w.heap.size + 1 + 1, 1, none⟩ = some (.int .i64 0) := by go_simp
    go_wp2_with fail
    refine bodyPost_ret (v := .agg #[.int .i64 0, .int .i64 0]) (by simp only [results, Try.results13]; go_simp) rfl ⟨rfl, ?_⟩
    (repeat (first | with_reducible exact t1 | (with_reducible refine Below.setCell ?_ ?_ _) | (with_reducible refine Below.alloc ?_ ?_ _) | with_reducible refine Below.drew ?_)); (all_goals (first | omega | (simp <;> omega)))
  · cases e2 : lblOk s2 v2
    · have q1 : joinS s1 v1 s2 v2 = 0 := by simp [joinS, e2]
      have q2 : joinV s1 v1 s2 v2 = 0 := by simp [joinV, e2]
      rw [q1, q2]
      clear q1 q2
      go_enter Try.func13, Try.ntmps13
      go_wp2_with fail
      refine (slabelOk_any _ _ _).mono ?_
      rintro e w1 ⟨rfl, b1⟩
      have z1 := b1.size
      try simp at z1
      have z1_0 : w.heap.size < w1.heap.size := by omega
      have z1_1 : w.heap.size + 1 < w1.heap.size := by omega
      have z1_2 : w.heap.size + 1 + 1 < w1.heap.size := by omega
      have t1 : Below w.heap.size w w1 := by
        refine Below.trans ?_ (b1.mono ?_)
        · (repeat (first | with_reducible exact t0 | (with_reducible refine Below.setCell ?_ ?_ _) | (with_reducible refine Below.alloc ?_ ?_ _) | with_reducible refine Below.drew ?_)); (all_goals (first | omega | (simp <;> omega)))
        · first | omega | (simp <;> omega)
      obtain ⟨c1, f1⟩ := bcell b1
      clear b1
      go_wp2_with fail
      refine (slabelOk_any _ _ _).mono ?_
      rintro e w2 ⟨rfl, b2⟩
      have z2 := b2.size
      try simp at z2
      have z2_0 : w.heap.size < w2.heap.size := by omega
      have z2_1 : w.heap.size + 1 < w2.heap.size := by omega
      have z2_2 : w.heap.size + 1 + 1 < w2.heap.size := by omega
      have t2 : Below w.heap.size w w2 := by
        refine Below.trans ?_ (b2.mono ?_)
        · (repeat (first | with_reducible exact t1 | (with_reducible refine Below.setCell ?_ ?_ _) | (with_reducible refine Below.alloc ?_ ?_ _) | with_reducible refine Below.drew ?_)); (all_goals (first | omega | (simp <;> omega)))
        · first | omega | (simp <;> omega)
      obtain ⟨c2, f2⟩ := bcell b2
      have o0 : w2.cell? ⟨w.heap.size + 1 + 1, 0, none⟩ = some (.int .i64 0) := by go_simp
      have o1 : w2.cell? ⟨w.heap.size + 1 + 1, 1, none⟩ = some (.int .i64 0) := by go_simp
      go_wp2_with fail
      refine bodyPost_ret (v := .agg #[.int .i64 0, .int .i64 0]) (by simp only [results, Try.results13]; go_simp) rfl ⟨rfl, ?_⟩
      (repeat (first | with_reducible exact t2 | (with_reducible refine Below.setCell ?_ ?_ _) | (with_reducible refine Below.alloc ?_ ?_ _) | with_reducible refine Below.drew ?_)); (all_goals (first | omega | (simp <;> omega)))
    · have f0 := lblOk_bd e1
      have g0 := lblOk_bd e2
      have q1 : joinS s1 v1 s2 v2 = orI s1 s2 := by simp [joinS, e1, e2]
      have q2 : joinV s1 v1 s2 v2 = andI v1 v2 := by simp [joinV, e1, e2]
      rw [q1, q2]
      clear q1 q2
      go_enter Try.func13, Try.ntmps13
      go_wp2_with fail
      refine (slabelOk_any _ _ _).mono ?_
      rintro e w1 ⟨rfl, b1⟩
      have z1 := b1.size
      try simp at z1
      have z1_0 : w.heap.size < w1.heap.size := by omega
      have z1_1 : w.heap.size + 1 < w1.heap.size := by omega
      have z1_2 : w.heap.size + 1 + 1 < w1.heap.size := by omega
      have t1 : Below w.heap.size w w1 := by
        refine Below.trans ?_ (b1.mono ?_)
        · (repeat (first | with_reducible exact t0 | (with_reducible refine Below.setCell ?_ ?_ _) | (with_reducible refine Below.alloc ?_ ?_ _) | with_reducible refine Below.drew ?_)); (all_goals (first | omega | (simp <;> omega)))
        · first | omega | (simp <;> omega)
      obtain ⟨c1, f1⟩ := bcell b1
      clear b1
      go_wp2_with fail
      refine (slabelOk_any _ _ _).mono ?_
      rintro e w2 ⟨rfl, b2⟩
      have z2 := b2.size
      try simp at z2
      have z2_0 : w.heap.size < w2.heap.size := by omega
      have z2_1 : w.heap.size + 1 < w2.heap.size := by omega
      have z2_2 : w.heap.size + 1 + 1 < w2.heap.size := by omega
      have t2 : Below w.heap.size w w2 := by
        refine Below.trans ?_ (b2.mono ?_)
        · (repeat (first | with_reducible exact t1 | (with_reducible refine Below.setCell ?_ ?_ _) | (with_reducible refine Below.alloc ?_ ?_ _) | with_reducible refine Below.drew ?_)); (all_goals (first | omega | (simp <;> omega)))
        · first | omega | (simp <;> omega)
      obtain ⟨c2, f2⟩ := bcell b2
      clear b2
      go_wp2_with fail
      refine wp_region_still_tail 11 (by kernel_rfl) (by kernel_rfl) ?_
      simp only [List.take_succ_cons, List.take_zero, List.drop_succ_cons, List.drop_zero]
      change wpStill _ _ w2.drew (fun a' => wpList _ _ _ _ a' w2.drew) _ _
      repeat still_step
      still_call ((l1Or_any s1 s2 (by omega) (by omega) (by omega) (by omega) _).mono fun _ _ h => ⟨h.1, h.2.symm⟩)
      repeat still_step
      still_call ((l1And_any v1 v2 (by omega) (by omega) (by omega) (by omega) _).mono fun _ _ h => ⟨h.1, h.2.symm⟩)
      repeat still_step
      refine wpStill_nil ?_
      have o0 : w2.cell? ⟨w.heap.size + 1 + 1, 0, none⟩ = some (.int .i64 0) := by go_simp
      have o1 : w2.cell? ⟨w.heap.size + 1 + 1, 1, none⟩ = some (.int .i64 0) := by go_simp
      go_wp2_with fail
      refine bodyPost_ret (v := .agg #[.int .i64 (orI s1 s2), .int .i64 (andI v1 v2)]) (by simp only [results, Try.results13]; go_simp) rfl ⟨rfl, ?_⟩
      (repeat (first | with_reducible exact t2 | (with_reducible refine Below.setCell ?_ ?_ _) | (with_reducible refine Below.alloc ?_ ?_ _) | with_reducible refine Below.drew ?_)); (all_goals (first | omega | (simp <;> omega)))
theorem labelMeet_any (s1 v1 s2 v2 : Int) (w : World) :
    Calls Try.prog 15 #[.agg #[.int .i64 s1, .int .i64 v1], .agg #[.int .i64 s2, .int .i64 v2]] w fun e w' => e = .returned (.agg #[.int .i64 (meetS s1 v1 s2 v2), .int .i64 (meetV s1 v1 s2 v2)]) ∧ Below w.heap.size w w' := by
  have t0 : Below w.heap.size w w := Below.refl _ _
  cases e1 : lblOk s1 v1
  · have q1 : meetS s1 v1 s2 v2 = 0 := by simp [meetS, e1]
    have q2 : meetV s1 v1 s2 v2 = 0 := by simp [meetV, e1]
    rw [q1, q2]
    clear q1 q2
    go_enter Try.func15, Try.ntmps15
    go_wp2_with fail
    refine (labelOk_any _ _ _).mono ?_
    rintro e w1 ⟨rfl, b1⟩
    have z1 := b1.size
    try simp at z1
    have z1_0 : w.heap.size < w1.heap.size := by omega
    have z1_1 : w.heap.size + 1 < w1.heap.size := by omega
    have z1_2 : w.heap.size + 1 + 1 < w1.heap.size := by omega
    have t1 : Below w.heap.size w w1 := by
      refine Below.trans ?_ (b1.mono ?_)
      · (repeat (first | with_reducible exact t0 | (with_reducible refine Below.setCell ?_ ?_ _) | (with_reducible refine Below.alloc ?_ ?_ _) | with_reducible refine Below.drew ?_)); (all_goals (first | omega | (simp <;> omega)))
      · first | omega | (simp <;> omega)
    obtain ⟨c1, f1⟩ := bcell b1
    have o0 : w1.cell? ⟨w.heap.size + 1 + 1, 0, none⟩ = some (.int .i64 0) := by go_simp
    have o1 : w1.cell? ⟨w.heap.size + 1 + 1, 1, none⟩ = some (.int .i64 0) := by go_simp
    go_wp2_with fail
    refine bodyPost_ret (v := .agg #[.int .i64 0, .int .i64 0]) (by simp only [results, Try.results15]; go_simp) rfl ⟨rfl, ?_⟩
    (repeat (first | with_reducible exact t1 | (with_reducible refine Below.setCell ?_ ?_ _) | (with_reducible refine Below.alloc ?_ ?_ _) | with_reducible refine Below.drew ?_)); (all_goals (first | omega | (simp <;> omega)))
  · cases e2 : lblOk s2 v2
    · have q1 : meetS s1 v1 s2 v2 = 0 := by simp [meetS, e2]
      have q2 : meetV s1 v1 s2 v2 = 0 := by simp [meetV, e2]
      rw [q1, q2]
      clear q1 q2
      go_enter Try.func15, Try.ntmps15
      go_wp2_with fail
      refine (labelOk_any _ _ _).mono ?_
      rintro e w1 ⟨rfl, b1⟩
      have z1 := b1.size
      try simp at z1
      have z1_0 : w.heap.size < w1.heap.size := by omega
      have z1_1 : w.heap.size + 1 < w1.heap.size := by omega
      have z1_2 : w.heap.size + 1 + 1 < w1.heap.size := by omega
      have t1 : Below w.heap.size w w1 := by
        refine Below.trans ?_ (b1.mono ?_)
        · (repeat (first | with_reducible exact t0 | (with_reducible refine Below.setCell ?_ ?_ _) | (with_reducible refine Below.alloc ?_ ?_ _) | with_reducible refine Below.drew ?_)); (all_goals (first | omega | (simp <;> omega)))
        · first | omega | (simp <;> omega)
      obtain ⟨c1, f1⟩ := bcell b1
      clear b1
      go_wp2_with fail
      refine (labelOk_any _ _ _).mono ?_
      rintro e w2 ⟨rfl, b2⟩
      have z2 := b2.size
      try simp at z2
      have z2_0 : w.heap.size < w2.heap.size := by omega
      have z2_1 : w.heap.size + 1 < w2.heap.size := by omega
      have z2_2 : w.heap.size + 1 + 1 < w2.heap.size := by omega
      have t2 : Below w.heap.size w w2 := by
        refine Below.trans ?_ (b2.mono ?_)
        · (repeat (first | with_reducible exact t1 | (with_reducible refine Below.setCell ?_ ?_ _) | (with_reducible refine Below.alloc ?_ ?_ _) | with_reducible refine Below.drew ?_)); (all_goals (first | omega | (simp <;> omega)))
        · first | omega | (simp <;> omega)
      obtain ⟨c2, f2⟩ := bcell b2
      have o0 : w2.cell? ⟨w.heap.size + 1 + 1, 0, none⟩ = some (.int .i64 0) := by go_simp
      have o1 : w2.cell? ⟨w.heap.size + 1 + 1, 1, none⟩ = some (.int .i64 0) := by go_simp
      go_wp2_with fail
      refine bodyPost_ret (v := .agg #[.int .i64 0, .int .i64 0]) (by simp only [results, Try.results15]; go_simp) rfl ⟨rfl, ?_⟩
      (repeat (first | with_reducible exact t2 | (with_reducible refine Below.setCell ?_ ?_ _) | (with_reducible refine Below.alloc ?_ ?_ _) | with_reducible refine Below.drew ?_)); (all_goals (first | omega | (simp <;> omega)))
    · have f0 := lblOk_bd e1
      have g0 := lblOk_bd e2
      have q1 : meetS s1 v1 s2 v2 = andI s1 s2 := by simp [meetS, e1, e2]
      have q2 : meetV s1 v1 s2 v2 = orI v1 v2 := by simp [meetV, e1, e2]
      rw [q1, q2]
      clear q1 q2
      have p1 := and_andI (a := s1) (b := s2) (by omega) (by omega) (by omega) (by omega)
      have p2 := or_orI (a := v1) (b := v2) (by omega) (by omega) (by omega) (by omega)
      have p3 := andI_bd (a := s1) (b := s2) (by omega) (by omega) (by omega) (by omega)
      have p4 := orI_bd (a := v1) (b := v2) (by omega) (by omega) (by omega) (by omega)
      go_enter Try.func15, Try.ntmps15
      go_wp2_with fail
      refine (labelOk_any _ _ _).mono ?_
      rintro e w1 ⟨rfl, b1⟩
      have z1 := b1.size
      try simp at z1
      have z1_0 : w.heap.size < w1.heap.size := by omega
      have z1_1 : w.heap.size + 1 < w1.heap.size := by omega
      have z1_2 : w.heap.size + 1 + 1 < w1.heap.size := by omega
      have t1 : Below w.heap.size w w1 := by
        refine Below.trans ?_ (b1.mono ?_)
        · (repeat (first | with_reducible exact t0 | (with_reducible refine Below.setCell ?_ ?_ _) | (with_reducible refine Below.alloc ?_ ?_ _) | with_reducible refine Below.drew ?_)); (all_goals (first | omega | (simp <;> omega)))
        · first | omega | (simp <;> omega)
      obtain ⟨c1, f1⟩ := bcell b1
      clear b1
      go_wp2_with fail
      refine (labelOk_any _ _ _).mono ?_
      rintro e w2 ⟨rfl, b2⟩
      have z2 := b2.size
      try simp at z2
      have z2_0 : w.heap.size < w2.heap.size := by omega
      have z2_1 : w.heap.size + 1 < w2.heap.size := by omega
      have z2_2 : w.heap.size + 1 + 1 < w2.heap.size := by omega
      have t2 : Below w.heap.size w w2 := by
        refine Below.trans ?_ (b2.mono ?_)
        · (repeat (first | with_reducible exact t1 | (with_reducible refine Below.setCell ?_ ?_ _) | (with_reducible refine Below.alloc ?_ ?_ _) | with_reducible refine Below.drew ?_)); (all_goals (first | omega | (simp <;> omega)))
        · first | omega | (simp <;> omega)
      obtain ⟨c2, f2⟩ := bcell b2
      clear b2
      go_wp2_with fail
      refine (labelSets_any _ _ (by omega) (by omega) (by omega) (by omega) _).mono ?_
      rintro e w3 ⟨rfl, b3⟩
      have z3 := b3.size
      try simp at z3
      have z3_0 : w.heap.size < w3.heap.size := by omega
      have z3_1 : w.heap.size + 1 < w3.heap.size := by omega
      have z3_2 : w.heap.size + 1 + 1 < w3.heap.size := by omega
      have t3 : Below w.heap.size w w3 := by
        refine Below.trans ?_ (b3.mono ?_)
        · (repeat (first | with_reducible exact t2 | (with_reducible refine Below.setCell ?_ ?_ _) | (with_reducible refine Below.alloc ?_ ?_ _) | with_reducible refine Below.drew ?_)); (all_goals (first | omega | (simp <;> omega)))
        · first | omega | (simp <;> omega)
      obtain ⟨c3, f3⟩ := bcell b3
      clear b3
      go_wp2_with fail
      refine (labelSets_any _ _ (by omega) (by omega) (by omega) (by omega) _).mono ?_
      rintro e w4 ⟨rfl, b4⟩
      have z4 := b4.size
      try simp at z4
      have z4_0 : w.heap.size < w4.heap.size := by omega
      have z4_1 : w.heap.size + 1 < w4.heap.size := by omega
      have z4_2 : w.heap.size + 1 + 1 < w4.heap.size := by omega
      have t4 : Below w.heap.size w w4 := by
        refine Below.trans ?_ (b4.mono ?_)
        · (repeat (first | with_reducible exact t3 | (with_reducible refine Below.setCell ?_ ?_ _) | (with_reducible refine Below.alloc ?_ ?_ _) | with_reducible refine Below.drew ?_)); (all_goals (first | omega | (simp <;> omega)))
        · first | omega | (simp <;> omega)
      obtain ⟨c4, f4⟩ := bcell b4
      clear b4
      go_wp2_with fail
      refine (labelOf_any _ _ p3.1 p3.2 p4.1 p4.2 _).mono ?_
      rintro e w5 ⟨rfl, b5⟩
      have z5 := b5.size
      try simp at z5
      have z5_0 : w.heap.size < w5.heap.size := by omega
      have z5_1 : w.heap.size + 1 < w5.heap.size := by omega
      have z5_2 : w.heap.size + 1 + 1 < w5.heap.size := by omega
      have t5 : Below w.heap.size w w5 := by
        refine Below.trans ?_ (b5.mono ?_)
        · (repeat (first | with_reducible exact t4 | (with_reducible refine Below.setCell ?_ ?_ _) | (with_reducible refine Below.alloc ?_ ?_ _) | with_reducible refine Below.drew ?_)); (all_goals (first | omega | (simp <;> omega)))
        · first | omega | (simp <;> omega)
      obtain ⟨c5, f5⟩ := bcell b5
      have o0 : w5.cell? ⟨w.heap.size + 1 + 1, 0, none⟩ = some (.int .i64 0) := by go_simp
      have o1 : w5.cell? ⟨w.heap.size + 1 + 1, 1, none⟩ = some (.int .i64 0) := by go_simp
      go_wp2_with fail
      refine bodyPost_ret (v := .agg #[.int .i64 (andI s1 s2), .int .i64 (orI v1 v2)]) (by simp only [results, Try.results15]; go_simp) rfl ⟨rfl, ?_⟩
      (repeat (first | with_reducible exact t5 | (with_reducible refine Below.setCell ?_ ?_ _) | (with_reducible refine Below.alloc ?_ ?_ _) | with_reducible refine Below.drew ?_)); (all_goals (first | omega | (simp <;> omega)))
theorem eqLabel_any (s1 v1 s2 v2 : Int) (w : World) :
    Calls Try.prog 10 #[.agg #[.int .i64 s1, .int .i64 v1], .agg #[.int .i64 s2, .int .i64 v2]] w fun e w' => e = .returned (.bool (lblEq s1 v1 s2 v2)) ∧ Below w.heap.size w w' := by
  have t0 : Below w.heap.size w w := Below.refl _ _
  go_enter Try.func10, Try.ntmps10
  go_wp2
  all_goals
    go_ret
    refine ⟨ret_bool (by simp_all [lblEq]), ?_⟩
    (repeat (first | with_reducible exact t0 | (with_reducible refine Below.setCell ?_ ?_ _) | (with_reducible refine Below.alloc ?_ ?_ _) | with_reducible refine Below.drew ?_)); (all_goals (first | omega | (simp <;> omega)))
end Go.Proofs.Ytmgikgcoigcadaa
