/- The drawn right: a contract of the reference's l71Right. No condition but that the reader's place stays small. -/
import Derived.Test.YtcgmnpppdoadhaaDoorRead
namespace Go.Proofs.YtcgmnpppdoadhaaDoor
set_option maxRecDepth 100000
open Go.RowKit
set_option linter.unusedVariables false

/-- What a draw of a right leaves. -/
def RightDrawn (x : Nat) (p : Int) (w : World) (e : Ending) (w' : World) : Prop :=
  ∃ (t v : Int) (r wr k : Bool), e = .returned (.agg #[.int .i64 t, .int .i64 v, .bool r, .bool wr, .bool k]) ∧ -1 ≤ t ∧ t ≤ 9 ∧ -1 ≤ v ∧ v ≤ 9 ∧
    ∃ q : Int, p ≤ q ∧ q ≤ p + 10 ∧ Rd w' x q ∧ Kept x w w'
set_option maxHeartbeats 4000000 in
theorem l71Right_any (x : Nat) (p : Int) (w : World) (hr : Rd w x p) (hp0 : 0 ≤ p) (hp : p ≤ 90000000) :
    Calls Tryd.prog 59 #[.pointer (some ⟨x, 0, none⟩)] w (RightDrawn x p w) := by
  have hx := hr.lt
  have hR := own_new w (.cells #[.int .i64 0, .int .i64 0, .bool false, .bool false, .bool false] 38)
  have t0 : Kept x w w := Kept.refl _ _
  have r0 := hr
  have lx0 := r0.lt
  go_enter Tryd.func59, Tryd.ntmps59
  go_wp2_with fail
  refine (pick_any _ _ _ _ (by (repeat (first | with_reducible exact r0 | with_reducible apply Rd.setCell | with_reducible apply Rd.alloc | with_reducible apply Rd.drew)); (all_goals (first | omega | (simp <;> omega)))) (by omega) (by omega)).mono ?_
  rintro e w1 ⟨m1, rfl, lo1, hi1, _, r1, k1⟩
  replace hi1 := hi1 (by omega)
  have z1 := k1.size
  try simp at z1
  have lx1 := r1.lt
  have z1_0 : w.heap.size < w1.heap.size := by omega
  have y1_0 : ¬ w.heap.size = x := by omega
  have t1 : Kept x w w1 := by
    refine Kept.trans ?_ k1
    · (repeat (first | with_reducible exact t0 | with_reducible refine Kept.setCell_new ?_ ?_ _ | with_reducible refine Kept.alloc ?_ _ | with_reducible refine Kept.drew ?_)); (all_goals (first | omega | (simp <;> omega)))
  obtain ⟨c1, f1⟩ := kcell k1
  replace hR := own_kept k1 (by omega) hR
  clear c1 f1 k1
  obtain ⟨cc_hR, ff_hR⟩ := own_cells hR
  cases q6 : (m1 == 0)
  · go_wp2_with fail
    refine (pick_any _ _ _ _ (by (repeat (first | with_reducible exact r1 | with_reducible apply Rd.setCell | with_reducible apply Rd.alloc | with_reducible apply Rd.drew)); (all_goals (first | omega | (simp <;> omega)))) (by omega) (by omega)).mono ?_
    rintro e w2 ⟨m2, rfl, lo2, hi2, _, r2, k2⟩
    replace hi2 := hi2 (by omega)
    have z2 := k2.size
    try simp at z2
    have lx2 := r2.lt
    have z2_0 : w.heap.size < w2.heap.size := by omega
    have y2_0 : ¬ w.heap.size = x := by omega
    have t2 : Kept x w w2 := by
      refine Kept.trans ?_ k2
      · (repeat (first | with_reducible exact t1 | with_reducible refine Kept.setCell_new ?_ ?_ _ | with_reducible refine Kept.alloc ?_ _ | with_reducible refine Kept.drew ?_)); (all_goals (first | omega | (simp <;> omega)))
    obtain ⟨c2, f2⟩ := kcell k2
    replace hR := own_kept k2 (by omega) hR
    clear c2 f2 k2 cc_hR ff_hR
    go_wp2_with fail
    refine (pick_any _ _ _ _ (by (repeat (first | with_reducible exact r2 | with_reducible apply Rd.setCell | with_reducible apply Rd.alloc | with_reducible apply Rd.drew)); (all_goals (first | omega | (simp <;> omega)))) (by omega) (by omega)).mono ?_
    rintro e w3 ⟨m3, rfl, lo3, hi3, _, r3, k3⟩
    replace hi3 := hi3 (by omega)
    have z3 := k3.size
    try simp at z3
    have lx3 := r3.lt
    have z3_0 : w.heap.size < w3.heap.size := by omega
    have y3_0 : ¬ w.heap.size = x := by omega
    have t3 : Kept x w w3 := by
      refine Kept.trans ?_ k3
      · (repeat (first | with_reducible exact t2 | with_reducible refine Kept.setCell_new ?_ ?_ _ | with_reducible refine Kept.alloc ?_ _ | with_reducible refine Kept.drew ?_)); (all_goals (first | omega | (simp <;> omega)))
    obtain ⟨c3, f3⟩ := kcell k3
    replace hR := own_kept k3 (by omega) hR
    clear c3 f3 k3
    go_wp2_with fail
    refine (pick_any _ _ _ _ (by (repeat (first | with_reducible exact r3 | with_reducible apply Rd.setCell | with_reducible apply Rd.alloc | with_reducible apply Rd.drew)); (all_goals (first | omega | (simp <;> omega)))) (by omega) (by omega)).mono ?_
    rintro e w4 ⟨m4, rfl, lo4, hi4, _, r4, k4⟩
    replace hi4 := hi4 (by omega)
    have z4 := k4.size
    try simp at z4
    have lx4 := r4.lt
    have z4_0 : w.heap.size < w4.heap.size := by omega
    have y4_0 : ¬ w.heap.size = x := by omega
    have t4 : Kept x w w4 := by
      refine Kept.trans ?_ k4
      · (repeat (first | with_reducible exact t3 | with_reducible refine Kept.setCell_new ?_ ?_ _ | with_reducible refine Kept.alloc ?_ _ | with_reducible refine Kept.drew ?_)); (all_goals (first | omega | (simp <;> omega)))
    obtain ⟨c4, f4⟩ := kcell k4
    replace hR := own_kept k4 (by omega) hR
    clear c4 f4 k4
    go_wp2_with fail
    refine (pick_any _ _ _ _ (by (repeat (first | with_reducible exact r4 | with_reducible apply Rd.setCell | with_reducible apply Rd.alloc | with_reducible apply Rd.drew)); (all_goals (first | omega | (simp <;> omega)))) (by omega) (by omega)).mono ?_
    rintro e w5 ⟨m5, rfl, lo5, hi5, _, r5, k5⟩
    replace hi5 := hi5 (by omega)
    have z5 := k5.size
    try simp at z5
    have lx5 := r5.lt
    have z5_0 : w.heap.size < w5.heap.size := by omega
    have y5_0 : ¬ w.heap.size = x := by omega
    have t5 : Kept x w w5 := by
      refine Kept.trans ?_ k5
      · (repeat (first | with_reducible exact t4 | with_reducible refine Kept.setCell_new ?_ ?_ _ | with_reducible refine Kept.alloc ?_ _ | with_reducible refine Kept.drew ?_)); (all_goals (first | omega | (simp <;> omega)))
    obtain ⟨c5, f5⟩ := kcell k5
    replace hR := own_kept k5 (by omega) hR
    clear c5 f5 k5
    have hO := own_new w5 (.cells #[.int .i64 (1 + m2), .int .i64 m3, .bool (decide (0 < m4)), .bool (m5 == 0), .bool false] 38)
    replace hR := own_alloc hR (.cells #[.int .i64 (1 + m2), .int .i64 m3, .bool (decide (0 < m4)), .bool (m5 == 0), .bool false] 38)
    obtain ⟨cc_hR, ff_hR⟩ := own_cells hR
    obtain ⟨cc_hO, ff_hO⟩ := own_cells hO
    cases q5 : (m5 == 0)
    · rw [q5] at hR hO
      go_wp2_with fail
      refine (pick_any _ _ _ _ (by (repeat (first | with_reducible exact r5 | with_reducible apply Rd.setCell | with_reducible apply Rd.alloc | with_reducible apply Rd.drew)); (all_goals (first | omega | (simp <;> omega)))) (by omega) (by omega)).mono ?_
      rintro e w6 ⟨m6, rfl, lo6, hi6, _, r6, k6⟩
      replace hi6 := hi6 (by omega)
      have z6 := k6.size
      try simp at z6
      have lx6 := r6.lt
      have z6_0 : w.heap.size < w6.heap.size := by omega
      have y6_0 : ¬ w.heap.size = x := by omega
      have z6_1 : w5.heap.size < w6.heap.size := by omega
      have y6_1 : ¬ w5.heap.size = x := by omega
      have t6 : Kept x w w6 := by
        refine Kept.trans ?_ k6
        · (repeat (first | with_reducible exact t5 | with_reducible refine Kept.setCell_new ?_ ?_ _ | with_reducible refine Kept.alloc ?_ _ | with_reducible refine Kept.drew ?_)); (all_goals (first | omega | (simp <;> omega)))
      obtain ⟨c6, f6⟩ := kcell k6
      replace hR := own_kept k6 (by omega) hR
      replace hO := own_kept k6 (by omega) hO
      try clear cc_hR ff_hR
      try clear cc_hO ff_hO
      clear c6 f6 k6
      obtain ⟨cc_hR, ff_hR⟩ := own_cells hR
      obtain ⟨cc_hO, ff_hO⟩ := own_cells hO
      replace hR := own_set_ne (B := w.heap.size) hR (p := ⟨w5.heap.size, 4, none⟩) (show w5.heap.size ≠ w.heap.size by omega) (.bool (m6 == 0))
      replace hO := own_set hO 4 (.bool (m6 == 0))
      go_wp2_with fail
      refine (pick_any _ _ _ _ (by (repeat (first | with_reducible exact r6 | with_reducible apply Rd.setCell | with_reducible apply Rd.alloc | with_reducible apply Rd.drew)); (all_goals (first | omega | (simp <;> omega)))) (by omega) (by omega)).mono ?_
      rintro e w7 ⟨m7, rfl, lo7, hi7, _, r7, k7⟩
      replace hi7 := hi7 (by omega)
      have z7 := k7.size
      try simp at z7
      have lx7 := r7.lt
      have z7_0 : w.heap.size < w7.heap.size := by omega
      have y7_0 : ¬ w.heap.size = x := by omega
      have z7_1 : w5.heap.size < w7.heap.size := by omega
      have y7_1 : ¬ w5.heap.size = x := by omega
      have t7 : Kept x w w7 := by
        refine Kept.trans ?_ k7
        · (repeat (first | with_reducible exact t6 | with_reducible refine Kept.setCell_new ?_ ?_ _ | with_reducible refine Kept.alloc ?_ _ | with_reducible refine Kept.drew ?_)); (all_goals (first | omega | (simp <;> omega)))
      obtain ⟨c7, f7⟩ := kcell k7
      replace hR := own_kept k7 (by omega) hR
      replace hO := own_kept k7 (by omega) hO
      try clear cc_hR ff_hR
      try clear cc_hO ff_hO
      clear c7 f7 k7
      obtain ⟨cc_hR, ff_hR⟩ := own_cells hR
      obtain ⟨cc_hO, ff_hO⟩ := own_cells hO
      cases q0 : (m7 == 0)
      · cases q1 : (m7 == 1)
        · cases q2 : (m7 == 2)
          · go_wp2_with fail
            have hE := own_set (own_set (own_set (own_set (own_set hR 0 (.int .i64 (1 + m2))) 1 (.int .i64 m3)) 2 (.bool (decide (0 < m4)))) 3 (.bool false)) 4 (.bool (m6 == 0))
            obtain ⟨ocE, _⟩ := own_cells hE
            refine bodyPost_ret (v := .agg #[.int .i64 (1 + m2), .int .i64 m3, .bool (decide (0 < m4)), .bool false, .bool (m6 == 0)]) ?_ rfl ?_
            · (try clear cc_hR ff_hR); (try clear cc_hO ff_hO); (try clear cc_hS ff_hS); simp only [results, Tryd.results59]; go_simp
            · refine ⟨1 + m2, m3, decide (0 < m4), false, m6 == 0, rfl, by omega, by omega, by omega, by omega, p + 1 + 1 + 1 + 1 + 1 + 1 + 1, by omega, by omega, ?_, ?_⟩
              · (repeat (first | with_reducible exact r7 | with_reducible apply Rd.setCell | with_reducible apply Rd.alloc | with_reducible apply Rd.drew)); (all_goals (first | omega | (simp <;> omega)))
              · (repeat (first | with_reducible exact t7 | with_reducible refine Kept.setCell_new ?_ ?_ _ | with_reducible refine Kept.alloc ?_ _ | with_reducible refine Kept.drew ?_)); (all_goals (first | omega | (simp <;> omega)))
          · go_wp2_with fail
            have hS := own_new w7 (.cells #[.int .i64 (-1), .int .i64 5, .int .i64 6] 3)
            refine (pick_any _ _ _ _ (by (repeat (first | with_reducible exact r7 | with_reducible apply Rd.setCell | with_reducible apply Rd.alloc | with_reducible apply Rd.drew)); (all_goals (first | omega | (simp <;> omega)))) (by omega) (by omega)).mono ?_
            rintro e w8 ⟨m8, rfl, lo8, hi8, _, r8, k8⟩
            replace hi8 := hi8 (by omega)
            have z8 := k8.size
            try simp at z8
            have lx8 := r8.lt
            have z8_0 : w.heap.size < w8.heap.size := by omega
            have y8_0 : ¬ w.heap.size = x := by omega
            have z8_1 : w5.heap.size < w8.heap.size := by omega
            have y8_1 : ¬ w5.heap.size = x := by omega
            have z8_2 : w7.heap.size < w8.heap.size := by omega
            have y8_2 : ¬ w7.heap.size = x := by omega
            have t8 : Kept x w w8 := by
              refine Kept.trans ?_ k8
              · (repeat (first | with_reducible exact t7 | with_reducible refine Kept.setCell_new ?_ ?_ _ | with_reducible refine Kept.alloc ?_ _ | with_reducible refine Kept.drew ?_)); (all_goals (first | omega | (simp <;> omega)))
            obtain ⟨c8, f8⟩ := kcell k8
            replace hR := own_kept k8 (by omega) (own_alloc hR _)
            replace hO := own_kept k8 (by omega) (own_alloc hO _)
            replace hS := own_kept k8 (by omega) hS
            try clear cc_hR ff_hR
            try clear cc_hO ff_hO
            clear c8 f8 k8
            obtain ⟨cc_hR, ff_hR⟩ := own_cells hR
            obtain ⟨cc_hO, ff_hO⟩ := own_cells hO
            obtain ⟨cc_hS, ff_hS⟩ := own_cells hS
            obtain ⟨y, hy, hy1, hy2⟩ := pick_list [.int .i64 (-1), .int .i64 5, .int .i64 6] m8.toNat (fun y => -1 ≤ y ∧ y ≤ 9) (by simp) (by simp; omega)
            go_wp2_with fail
            have hE := own_set (own_set (own_set (own_set (own_set (own_set_ne (B := w.heap.size) hR (p := ⟨w5.heap.size, 1, none⟩) (show w5.heap.size ≠ w.heap.size by omega) (.int .i64 y)) 0 (.int .i64 (1 + m2))) 1 (.int .i64 y)) 2 (.bool (decide (0 < m4)))) 3 (.bool false)) 4 (.bool (m6 == 0))
            obtain ⟨ocE, _⟩ := own_cells hE
            refine bodyPost_ret (v := .agg #[.int .i64 (1 + m2), .int .i64 y, .bool (decide (0 < m4)), .bool false, .bool (m6 == 0)]) ?_ rfl ?_
            · (try clear cc_hR ff_hR); (try clear cc_hO ff_hO); (try clear cc_hS ff_hS); simp only [results, Tryd.results59]; go_simp
            · refine ⟨1 + m2, y, decide (0 < m4), false, m6 == 0, rfl, by omega, by omega, by omega, by omega, p + 1 + 1 + 1 + 1 + 1 + 1 + 1 + 1, by omega, by omega, ?_, ?_⟩
              · (repeat (first | with_reducible exact r8 | with_reducible apply Rd.setCell | with_reducible apply Rd.alloc | with_reducible apply Rd.drew)); (all_goals (first | omega | (simp <;> omega)))
              · (repeat (first | with_reducible exact t8 | with_reducible refine Kept.setCell_new ?_ ?_ _ | with_reducible refine Kept.alloc ?_ _ | with_reducible refine Kept.drew ?_)); (all_goals (first | omega | (simp <;> omega)))
        · go_wp2_with fail
          have hS := own_new w7 (.cells #[.int .i64 0, .int .i64 9, .int .i64 (-1)] 3)
          refine (pick_any _ _ _ _ (by (repeat (first | with_reducible exact r7 | with_reducible apply Rd.setCell | with_reducible apply Rd.alloc | with_reducible apply Rd.drew)); (all_goals (first | omega | (simp <;> omega)))) (by omega) (by omega)).mono ?_
          rintro e w8 ⟨m8, rfl, lo8, hi8, _, r8, k8⟩
          replace hi8 := hi8 (by omega)
          have z8 := k8.size
          try simp at z8
          have lx8 := r8.lt
          have z8_0 : w.heap.size < w8.heap.size := by omega
          have y8_0 : ¬ w.heap.size = x := by omega
          have z8_1 : w5.heap.size < w8.heap.size := by omega
          have y8_1 : ¬ w5.heap.size = x := by omega
          have z8_2 : w7.heap.size < w8.heap.size := by omega
          have y8_2 : ¬ w7.heap.size = x := by omega
          have t8 : Kept x w w8 := by
            refine Kept.trans ?_ k8
            · (repeat (first | with_reducible exact t7 | with_reducible refine Kept.setCell_new ?_ ?_ _ | with_reducible refine Kept.alloc ?_ _ | with_reducible refine Kept.drew ?_)); (all_goals (first | omega | (simp <;> omega)))
          obtain ⟨c8, f8⟩ := kcell k8
          replace hR := own_kept k8 (by omega) (own_alloc hR _)
          replace hO := own_kept k8 (by omega) (own_alloc hO _)
          replace hS := own_kept k8 (by omega) hS
          try clear cc_hR ff_hR
          try clear cc_hO ff_hO
          clear c8 f8 k8
          obtain ⟨cc_hR, ff_hR⟩ := own_cells hR
          obtain ⟨cc_hO, ff_hO⟩ := own_cells hO
          obtain ⟨cc_hS, ff_hS⟩ := own_cells hS
          obtain ⟨y, hy, hy1, hy2⟩ := pick_list [.int .i64 0, .int .i64 9, .int .i64 (-1)] m8.toNat (fun y => -1 ≤ y ∧ y ≤ 9) (by simp) (by simp; omega)
          go_wp2_with fail
          have hE := own_set (own_set (own_set (own_set (own_set (own_set_ne (B := w.heap.size) hR (p := ⟨w5.heap.size, 0, none⟩) (show w5.heap.size ≠ w.heap.size by omega) (.int .i64 y)) 0 (.int .i64 y)) 1 (.int .i64 m3)) 2 (.bool (decide (0 < m4)))) 3 (.bool false)) 4 (.bool (m6 == 0))
          obtain ⟨ocE, _⟩ := own_cells hE
          refine bodyPost_ret (v := .agg #[.int .i64 y, .int .i64 m3, .bool (decide (0 < m4)), .bool false, .bool (m6 == 0)]) ?_ rfl ?_
          · (try clear cc_hR ff_hR); (try clear cc_hO ff_hO); (try clear cc_hS ff_hS); simp only [results, Tryd.results59]; go_simp
          · refine ⟨y, m3, decide (0 < m4), false, m6 == 0, rfl, by omega, by omega, by omega, by omega, p + 1 + 1 + 1 + 1 + 1 + 1 + 1 + 1, by omega, by omega, ?_, ?_⟩
            · (repeat (first | with_reducible exact r8 | with_reducible apply Rd.setCell | with_reducible apply Rd.alloc | with_reducible apply Rd.drew)); (all_goals (first | omega | (simp <;> omega)))
            · (repeat (first | with_reducible exact t8 | with_reducible refine Kept.setCell_new ?_ ?_ _ | with_reducible refine Kept.alloc ?_ _ | with_reducible refine Kept.drew ?_)); (all_goals (first | omega | (simp <;> omega)))
      · go_wp2_with fail
        have hE := own_set (own_set (own_set (own_set (own_set (own_set_ne (B := w.heap.size) hR (p := ⟨w5.heap.size, 4, none⟩) (show w5.heap.size ≠ w.heap.size by omega) (.bool true)) 0 (.int .i64 (1 + m2))) 1 (.int .i64 m3)) 2 (.bool (decide (0 < m4)))) 3 (.bool false)) 4 (.bool true)
        obtain ⟨ocE, _⟩ := own_cells hE
        refine bodyPost_ret (v := .agg #[.int .i64 (1 + m2), .int .i64 m3, .bool (decide (0 < m4)), .bool false, .bool true]) ?_ rfl ?_
        · (try clear cc_hR ff_hR); (try clear cc_hO ff_hO); (try clear cc_hS ff_hS); simp only [results, Tryd.results59]; go_simp
        · refine ⟨1 + m2, m3, decide (0 < m4), false, true, rfl, by omega, by omega, by omega, by omega, p + 1 + 1 + 1 + 1 + 1 + 1 + 1, by omega, by omega, ?_, ?_⟩
          · (repeat (first | with_reducible exact r7 | with_reducible apply Rd.setCell | with_reducible apply Rd.alloc | with_reducible apply Rd.drew)); (all_goals (first | omega | (simp <;> omega)))
          · (repeat (first | with_reducible exact t7 | with_reducible refine Kept.setCell_new ?_ ?_ _ | with_reducible refine Kept.alloc ?_ _ | with_reducible refine Kept.drew ?_)); (all_goals (first | omega | (simp <;> omega)))
    · rw [q5] at hR hO
      go_wp2_with fail
      refine (pick_any _ _ _ _ (by (repeat (first | with_reducible exact r5 | with_reducible apply Rd.setCell | with_reducible apply Rd.alloc | with_reducible apply Rd.drew)); (all_goals (first | omega | (simp <;> omega)))) (by omega) (by omega)).mono ?_
      rintro e w6 ⟨m6, rfl, lo6, hi6, _, r6, k6⟩
      replace hi6 := hi6 (by omega)
      have z6 := k6.size
      try simp at z6
      have lx6 := r6.lt
      have z6_0 : w.heap.size < w6.heap.size := by omega
      have y6_0 : ¬ w.heap.size = x := by omega
      have z6_1 : w5.heap.size < w6.heap.size := by omega
      have y6_1 : ¬ w5.heap.size = x := by omega
      have t6 : Kept x w w6 := by
        refine Kept.trans ?_ k6
        · (repeat (first | with_reducible exact t5 | with_reducible refine Kept.setCell_new ?_ ?_ _ | with_reducible refine Kept.alloc ?_ _ | with_reducible refine Kept.drew ?_)); (all_goals (first | omega | (simp <;> omega)))
      obtain ⟨c6, f6⟩ := kcell k6
      replace hR := own_kept k6 (by omega) hR
      replace hO := own_kept k6 (by omega) hO
      try clear cc_hR ff_hR
      try clear cc_hO ff_hO
      clear c6 f6 k6
      obtain ⟨cc_hR, ff_hR⟩ := own_cells hR
      obtain ⟨cc_hO, ff_hO⟩ := own_cells hO
      cases q0 : (m6 == 0)
      · cases q1 : (m6 == 1)
        · cases q2 : (m6 == 2)
          · go_wp2_with fail
            have hE := own_set (own_set (own_set (own_set (own_set hR 0 (.int .i64 (1 + m2))) 1 (.int .i64 m3)) 2 (.bool (decide (0 < m4)))) 3 (.bool true)) 4 (.bool (false))
            obtain ⟨ocE, _⟩ := own_cells hE
            refine bodyPost_ret (v := .agg #[.int .i64 (1 + m2), .int .i64 m3, .bool (decide (0 < m4)), .bool true, .bool (false)]) ?_ rfl ?_
            · (try clear cc_hR ff_hR); (try clear cc_hO ff_hO); (try clear cc_hS ff_hS); simp only [results, Tryd.results59]; go_simp
            · refine ⟨1 + m2, m3, decide (0 < m4), true, false, rfl, by omega, by omega, by omega, by omega, p + 1 + 1 + 1 + 1 + 1 + 1, by omega, by omega, ?_, ?_⟩
              · (repeat (first | with_reducible exact r6 | with_reducible apply Rd.setCell | with_reducible apply Rd.alloc | with_reducible apply Rd.drew)); (all_goals (first | omega | (simp <;> omega)))
              · (repeat (first | with_reducible exact t6 | with_reducible refine Kept.setCell_new ?_ ?_ _ | with_reducible refine Kept.alloc ?_ _ | with_reducible refine Kept.drew ?_)); (all_goals (first | omega | (simp <;> omega)))
          · go_wp2_with fail
            have hS := own_new w6 (.cells #[.int .i64 (-1), .int .i64 5, .int .i64 6] 3)
            refine (pick_any _ _ _ _ (by (repeat (first | with_reducible exact r6 | with_reducible apply Rd.setCell | with_reducible apply Rd.alloc | with_reducible apply Rd.drew)); (all_goals (first | omega | (simp <;> omega)))) (by omega) (by omega)).mono ?_
            rintro e w7 ⟨m7, rfl, lo7, hi7, _, r7, k7⟩
            replace hi7 := hi7 (by omega)
            have z7 := k7.size
            try simp at z7
            have lx7 := r7.lt
            have z7_0 : w.heap.size < w7.heap.size := by omega
            have y7_0 : ¬ w.heap.size = x := by omega
            have z7_1 : w5.heap.size < w7.heap.size := by omega
            have y7_1 : ¬ w5.heap.size = x := by omega
            have z7_2 : w6.heap.size < w7.heap.size := by omega
            have y7_2 : ¬ w6.heap.size = x := by omega
            have t7 : Kept x w w7 := by
              refine Kept.trans ?_ k7
              · (repeat (first | with_reducible exact t6 | with_reducible refine Kept.setCell_new ?_ ?_ _ | with_reducible refine Kept.alloc ?_ _ | with_reducible refine Kept.drew ?_)); (all_goals (first | omega | (simp <;> omega)))
            obtain ⟨c7, f7⟩ := kcell k7
            replace hR := own_kept k7 (by omega) (own_alloc hR _)
            replace hO := own_kept k7 (by omega) (own_alloc hO _)
            replace hS := own_kept k7 (by omega) hS
            try clear cc_hR ff_hR
            try clear cc_hO ff_hO
            clear c7 f7 k7
            obtain ⟨cc_hR, ff_hR⟩ := own_cells hR
            obtain ⟨cc_hO, ff_hO⟩ := own_cells hO
            obtain ⟨cc_hS, ff_hS⟩ := own_cells hS
            obtain ⟨y, hy, hy1, hy2⟩ := pick_list [.int .i64 (-1), .int .i64 5, .int .i64 6] m7.toNat (fun y => -1 ≤ y ∧ y ≤ 9) (by simp) (by simp; omega)
            go_wp2_with fail
            have hE := own_set (own_set (own_set (own_set (own_set (own_set_ne (B := w.heap.size) hR (p := ⟨w5.heap.size, 1, none⟩) (show w5.heap.size ≠ w.heap.size by omega) (.int .i64 y)) 0 (.int .i64 (1 + m2))) 1 (.int .i64 y)) 2 (.bool (decide (0 < m4)))) 3 (.bool true)) 4 (.bool (false))
            obtain ⟨ocE, _⟩ := own_cells hE
            refine bodyPost_ret (v := .agg #[.int .i64 (1 + m2), .int .i64 y, .bool (decide (0 < m4)), .bool true, .bool (false)]) ?_ rfl ?_
            · (try clear cc_hR ff_hR); (try clear cc_hO ff_hO); (try clear cc_hS ff_hS); simp only [results, Tryd.results59]; go_simp
            · refine ⟨1 + m2, y, decide (0 < m4), true, false, rfl, by omega, by omega, by omega, by omega, p + 1 + 1 + 1 + 1 + 1 + 1 + 1, by omega, by omega, ?_, ?_⟩
              · (repeat (first | with_reducible exact r7 | with_reducible apply Rd.setCell | with_reducible apply Rd.alloc | with_reducible apply Rd.drew)); (all_goals (first | omega | (simp <;> omega)))
              · (repeat (first | with_reducible exact t7 | with_reducible refine Kept.setCell_new ?_ ?_ _ | with_reducible refine Kept.alloc ?_ _ | with_reducible refine Kept.drew ?_)); (all_goals (first | omega | (simp <;> omega)))
        · go_wp2_with fail
          have hS := own_new w6 (.cells #[.int .i64 0, .int .i64 9, .int .i64 (-1)] 3)
          refine (pick_any _ _ _ _ (by (repeat (first | with_reducible exact r6 | with_reducible apply Rd.setCell | with_reducible apply Rd.alloc | with_reducible apply Rd.drew)); (all_goals (first | omega | (simp <;> omega)))) (by omega) (by omega)).mono ?_
          rintro e w7 ⟨m7, rfl, lo7, hi7, _, r7, k7⟩
          replace hi7 := hi7 (by omega)
          have z7 := k7.size
          try simp at z7
          have lx7 := r7.lt
          have z7_0 : w.heap.size < w7.heap.size := by omega
          have y7_0 : ¬ w.heap.size = x := by omega
          have z7_1 : w5.heap.size < w7.heap.size := by omega
          have y7_1 : ¬ w5.heap.size = x := by omega
          have z7_2 : w6.heap.size < w7.heap.size := by omega
          have y7_2 : ¬ w6.heap.size = x := by omega
          have t7 : Kept x w w7 := by
            refine Kept.trans ?_ k7
            · (repeat (first | with_reducible exact t6 | with_reducible refine Kept.setCell_new ?_ ?_ _ | with_reducible refine Kept.alloc ?_ _ | with_reducible refine Kept.drew ?_)); (all_goals (first | omega | (simp <;> omega)))
          obtain ⟨c7, f7⟩ := kcell k7
          replace hR := own_kept k7 (by omega) (own_alloc hR _)
          replace hO := own_kept k7 (by omega) (own_alloc hO _)
          replace hS := own_kept k7 (by omega) hS
          try clear cc_hR ff_hR
          try clear cc_hO ff_hO
          clear c7 f7 k7
          obtain ⟨cc_hR, ff_hR⟩ := own_cells hR
          obtain ⟨cc_hO, ff_hO⟩ := own_cells hO
          obtain ⟨cc_hS, ff_hS⟩ := own_cells hS
          obtain ⟨y, hy, hy1, hy2⟩ := pick_list [.int .i64 0, .int .i64 9, .int .i64 (-1)] m7.toNat (fun y => -1 ≤ y ∧ y ≤ 9) (by simp) (by simp; omega)
          go_wp2_with fail
          have hE := own_set (own_set (own_set (own_set (own_set (own_set_ne (B := w.heap.size) hR (p := ⟨w5.heap.size, 0, none⟩) (show w5.heap.size ≠ w.heap.size by omega) (.int .i64 y)) 0 (.int .i64 y)) 1 (.int .i64 m3)) 2 (.bool (decide (0 < m4)))) 3 (.bool true)) 4 (.bool (false))
          obtain ⟨ocE, _⟩ := own_cells hE
          refine bodyPost_ret (v := .agg #[.int .i64 y, .int .i64 m3, .bool (decide (0 < m4)), .bool true, .bool (false)]) ?_ rfl ?_
          · (try clear cc_hR ff_hR); (try clear cc_hO ff_hO); (try clear cc_hS ff_hS); simp only [results, Tryd.results59]; go_simp
          · refine ⟨y, m3, decide (0 < m4), true, false, rfl, by omega, by omega, by omega, by omega, p + 1 + 1 + 1 + 1 + 1 + 1 + 1, by omega, by omega, ?_, ?_⟩
            · (repeat (first | with_reducible exact r7 | with_reducible apply Rd.setCell | with_reducible apply Rd.alloc | with_reducible apply Rd.drew)); (all_goals (first | omega | (simp <;> omega)))
            · (repeat (first | with_reducible exact t7 | with_reducible refine Kept.setCell_new ?_ ?_ _ | with_reducible refine Kept.alloc ?_ _ | with_reducible refine Kept.drew ?_)); (all_goals (first | omega | (simp <;> omega)))
      · go_wp2_with fail
        have hE := own_set (own_set (own_set (own_set (own_set (own_set_ne (B := w.heap.size) hR (p := ⟨w5.heap.size, 4, none⟩) (show w5.heap.size ≠ w.heap.size by omega) (.bool true)) 0 (.int .i64 (1 + m2))) 1 (.int .i64 m3)) 2 (.bool (decide (0 < m4)))) 3 (.bool true)) 4 (.bool true)
        obtain ⟨ocE, _⟩ := own_cells hE
        refine bodyPost_ret (v := .agg #[.int .i64 (1 + m2), .int .i64 m3, .bool (decide (0 < m4)), .bool true, .bool true]) ?_ rfl ?_
        · (try clear cc_hR ff_hR); (try clear cc_hO ff_hO); (try clear cc_hS ff_hS); simp only [results, Tryd.results59]; go_simp
        · refine ⟨1 + m2, m3, decide (0 < m4), true, true, rfl, by omega, by omega, by omega, by omega, p + 1 + 1 + 1 + 1 + 1 + 1, by omega, by omega, ?_, ?_⟩
          · (repeat (first | with_reducible exact r6 | with_reducible apply Rd.setCell | with_reducible apply Rd.alloc | with_reducible apply Rd.drew)); (all_goals (first | omega | (simp <;> omega)))
          · (repeat (first | with_reducible exact t6 | with_reducible refine Kept.setCell_new ?_ ?_ _ | with_reducible refine Kept.alloc ?_ _ | with_reducible refine Kept.drew ?_)); (all_goals (first | omega | (simp <;> omega)))
  · go_wp2_with fail
    have hE := own_set (own_set (own_set (own_set (own_set hR 0 (.int .i64 0)) 1 (.int .i64 0)) 2 (.bool false)) 3 (.bool false)) 4 (.bool false)
    obtain ⟨ocE, _⟩ := own_cells hE
    refine bodyPost_ret (v := .agg #[.int .i64 0, .int .i64 0, .bool false, .bool false, .bool false]) ?_ rfl ?_
    · (try clear cc_hR ff_hR); (try clear cc_hO ff_hO); (try clear cc_hS ff_hS); simp only [results, Tryd.results59]; go_simp
    · refine ⟨0, 0, false, false, false, rfl, by omega, by omega, by omega, by omega, p + 1, by omega, by omega, ?_, ?_⟩
      · (repeat (first | with_reducible exact r1 | with_reducible apply Rd.setCell | with_reducible apply Rd.alloc | with_reducible apply Rd.drew)); (all_goals (first | omega | (simp <;> omega)))
      · (repeat (first | with_reducible exact t1 | with_reducible refine Kept.setCell_new ?_ ?_ _ | with_reducible refine Kept.alloc ?_ _ | with_reducible refine Kept.drew ?_)); (all_goals (first | omega | (simp <;> omega)))
end Go.Proofs.YtcgmnpppdoadhaaDoor
