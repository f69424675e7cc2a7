/- The draws of a right for its text, of a label for its text. No condition but that the code is a row of bytes. -/
import Derived.Test.YtmgikgcoigcadaaDoorDrawRgt2
import Derived.Test.YtmgikgcoigcadaaDoorDrawLab2
namespace Go.Proofs.YtmgikgcoigcadaaDoor
set_option maxRecDepth 100000
open Go.RowKit
set_option linter.unusedVariables false

set_option maxHeartbeats 2000000 in
theorem drawRightText_any (a : Option Addr) (len cap : Nat) (z : List Int) (w : World) (hr : IsRow .u8 w a len cap z) :
    Calls Tryd.prog 23 #[.slice a len cap] w (RightsDrawn1 w) := by
  have hR := own_new w (.cells #[.int .i64 0, .int .i64 0, .bool false, .bool false, .bool false] 23)
  go_enter Tryd.func23, Tryd.ntmps23
  go_wp2_with fail
  refine (l6Open_any _ _ _ _ _ (hr.alloc _)).mono ?_
  rintro e w0 ⟨x, hx0, rfl, r0, b0⟩
  have z0 := b0.size
  try simp at z0
  have lx0 := r0.lt
  try simp at hx0
  have z0_0 : w.heap.size < w0.heap.size := by omega
  have y0_0 : ¬ w.heap.size = x := by omega
  have t0 : Kept x w w0 := by
    refine Kept.of_below ?_ b0
    · repeat (first | exact Kept.refl _ _ | refine Kept.alloc ?_ _)
  obtain ⟨c0, f0⟩ := bcell b0
  replace hR := own_below b0 hR
  clear b0 c0 f0
  go_wp2_with fail
  refine (l71Right_any _ _ _ (by (repeat (first | with_reducible exact r0 | with_reducible apply Rd.setCell | with_reducible apply Rd.alloc | with_reducible apply Rd.drew)); (all_goals (first | omega | (simp <;> omega)))) (by omega) (by omega)).mono ?_
  rintro e w1 ⟨g1, v1, r'1, wr1, k'1, rfl, _, _, _, _, p1, lp1, up1, r1, k1⟩
  have z1 := k1.size
  try simp at z1
  have lx1 := r1.lt
  have z1_0 : w.heap.size < w1.heap.size := by omega
  have y1_0 : ¬ w.heap.size = x := by omega
  have t1 : Kept x w w1 := by
    refine Kept.trans ?_ k1
    · (repeat (first | with_reducible exact t0 | with_reducible refine Kept.setCell_new ?_ ?_ _ | with_reducible refine Kept.alloc ?_ _ | with_reducible refine Kept.drew ?_)); (all_goals (first | omega | (simp <;> omega)))
  obtain ⟨c1, f1⟩ := kcell k1
  replace hR := own_kept k1 (by omega) hR
  clear c1 f1 k1
  obtain ⟨cc_hR, ff_hR⟩ := own_cells hR
  go_wp2_with fail
  have hE := own_set (own_set (own_set (own_set (own_set hR 0 (.int .i64 g1)) 1 (.int .i64 v1)) 2 (.bool r'1)) 3 (.bool wr1)) 4 (.bool k'1)
  obtain ⟨ocE, _⟩ := own_cells hE
  refine bodyPost_ret (v := .agg #[.int .i64 g1, .int .i64 v1, .bool r'1, .bool wr1, .bool k'1]) ?_ rfl ?_
  · clear cc_hR ff_hR
    simp only [results, Tryd.results23]
    go_simp
  · refine ⟨g1, v1, r'1, wr1, k'1, rfl, Kept.below' (x := x) ?_ (by omega)⟩
    (repeat (first | with_reducible exact t1 | with_reducible refine Kept.setCell_new ?_ ?_ _ | with_reducible refine Kept.alloc ?_ _ | with_reducible refine Kept.drew ?_)); (all_goals (first | omega | (simp <;> omega)))
/-- A drawn label. -/
def LabelsDrawn1 (w : World) (e : Ending) (w' : World) : Prop :=
  ∃ s v : Int, e = .returned (.agg #[.int .i64 s, .int .i64 v]) ∧ Below w.heap.size w w'
set_option maxHeartbeats 2000000 in
theorem drawLabelText_any (a : Option Addr) (len cap : Nat) (z : List Int) (w : World) (hr : IsRow .u8 w a len cap z) :
    Calls Tryd.prog 19 #[.slice a len cap] w (LabelsDrawn1 w) := by
  have hR := own_new w (.cells #[.int .i64 0, .int .i64 0] 30)
  go_enter Tryd.func19, Tryd.ntmps19
  go_wp2_with fail
  refine (l6Open_any _ _ _ _ _ (hr.alloc _)).mono ?_
  rintro e w0 ⟨x, hx0, rfl, r0, b0⟩
  have z0 := b0.size
  try simp at z0
  have lx0 := r0.lt
  try simp at hx0
  have z0_0 : w.heap.size < w0.heap.size := by omega
  have y0_0 : ¬ w.heap.size = x := by omega
  have t0 : Kept x w w0 := by
    refine Kept.of_below ?_ b0
    · repeat (first | exact Kept.refl _ _ | refine Kept.alloc ?_ _)
  obtain ⟨c0, f0⟩ := bcell b0
  replace hR := own_below b0 hR
  clear b0 c0 f0
  go_wp2_with fail
  refine (l71Label_any _ _ _ (by (repeat (first | with_reducible exact r0 | with_reducible apply Rd.setCell | with_reducible apply Rd.alloc | with_reducible apply Rd.drew)); (all_goals (first | omega | (simp <;> omega)))) (by omega) (by omega)).mono ?_
  rintro e w1 ⟨s1, v1, rfl, p1, lp1, up1, r1, k1⟩
  have z1 := k1.size
  try simp at z1
  have lx1 := r1.lt
  have z1_0 : w.heap.size < w1.heap.size := by omega
  have y1_0 : ¬ w.heap.size = x := by omega
  have t1 : Kept x w w1 := by
    refine Kept.trans ?_ k1
    · (repeat (first | with_reducible exact t0 | with_reducible refine Kept.setCell_new ?_ ?_ _ | with_reducible refine Kept.alloc ?_ _ | with_reducible refine Kept.drew ?_)); (all_goals (first | omega | (simp <;> omega)))
  obtain ⟨c1, f1⟩ := kcell k1
  replace hR := own_kept k1 (by omega) hR
  clear c1 f1 k1
  obtain ⟨cc_hR, ff_hR⟩ := own_cells hR
  go_wp2_with fail
  have hE := own_set (own_set hR 0 (.int .i64 s1)) 1 (.int .i64 v1)
  obtain ⟨ocE, _⟩ := own_cells hE
  refine bodyPost_ret (v := .agg #[.int .i64 s1, .int .i64 v1]) ?_ rfl ?_
  · clear cc_hR ff_hR
    simp only [results, Tryd.results19]
    go_simp
  · refine ⟨s1, v1, rfl, Kept.below' (x := x) ?_ (by omega)⟩
    (repeat (first | with_reducible exact t1 | with_reducible refine Kept.setCell_new ?_ ?_ _ | with_reducible refine Kept.alloc ?_ _ | with_reducible refine Kept.drew ?_)); (all_goals (first | omega | (simp <;> omega)))
set_option maxHeartbeats 2000000 in
theorem drawLabelOk_any (a : Option Addr) (len cap : Nat) (z : List Int) (w : World) (hr : IsRow .u8 w a len cap z) :
    Calls Tryd.prog 13 #[.slice a len cap] w (LabelsDrawn1 w) := by
  have hR := own_new w (.cells #[.int .i64 0, .int .i64 0] 30)
  go_enter Tryd.func13, Tryd.ntmps13
  go_wp2_with fail
  refine (l6Open_any _ _ _ _ _ (hr.alloc _)).mono ?_
  rintro e w0 ⟨x, hx0, rfl, r0, b0⟩
  have z0 := b0.size
  try simp at z0
  have lx0 := r0.lt
  try simp at hx0
  have z0_0 : w.heap.size < w0.heap.size := by omega
  have y0_0 : ¬ w.heap.size = x := by omega
  have t0 : Kept x w w0 := by
    refine Kept.of_below ?_ b0
    · repeat (first | exact Kept.refl _ _ | refine Kept.alloc ?_ _)
  obtain ⟨c0, f0⟩ := bcell b0
  replace hR := own_below b0 hR
  clear b0 c0 f0
  go_wp2_with fail
  refine (pick_any _ _ _ _ (by (repeat (first | with_reducible exact r0 | with_reducible apply Rd.setCell | with_reducible apply Rd.alloc | with_reducible apply Rd.drew)); (all_goals (first | omega | (simp <;> omega)))) (by omega) (by omega)).mono ?_
  rintro e w1 ⟨m1, rfl, lo1, hi1, _, r1, k1⟩
  replace hi1 := hi1 (by omega)
  have z1 := k1.size
  try simp at z1
  have lx1 := r1.lt
  have z1_0 : w.heap.size < w1.heap.size := by omega
  have y1_0 : ¬ w.heap.size = x := by omega
  have t1 : Kept x w w1 := by
    refine Kept.trans ?_ k1
    · (repeat (first | with_reducible exact t0 | with_reducible refine Kept.setCell_new ?_ ?_ _ | with_reducible refine Kept.alloc ?_ _ | with_reducible refine Kept.drew ?_)); (all_goals (first | omega | (simp <;> omega)))
  obtain ⟨c1, f1⟩ := kcell k1
  replace hR := own_kept k1 (by omega) hR
  clear c1 f1 k1
  go_wp2_with fail
  refine (pick_any _ _ _ _ (by (repeat (first | with_reducible exact r1 | with_reducible apply Rd.setCell | with_reducible apply Rd.alloc | with_reducible apply Rd.drew)); (all_goals (first | omega | (simp <;> omega)))) (by omega) (by omega)).mono ?_
  rintro e w2 ⟨m2, rfl, lo2, hi2, _, r2, k2⟩
  replace hi2 := hi2 (by omega)
  have z2 := k2.size
  try simp at z2
  have lx2 := r2.lt
  have z2_0 : w.heap.size < w2.heap.size := by omega
  have y2_0 : ¬ w.heap.size = x := by omega
  have t2 : Kept x w w2 := by
    refine Kept.trans ?_ k2
    · (repeat (first | with_reducible exact t1 | with_reducible refine Kept.setCell_new ?_ ?_ _ | with_reducible refine Kept.alloc ?_ _ | with_reducible refine Kept.drew ?_)); (all_goals (first | omega | (simp <;> omega)))
  obtain ⟨c2, f2⟩ := kcell k2
  replace hR := own_kept k2 (by omega) hR
  clear c2 f2 k2
  obtain ⟨cc_hR, ff_hR⟩ := own_cells hR
  go_wp2_with fail
  have hE := own_set (own_set hR 0 (.int .i64 (m1 - 1))) 1 (.int .i64 (m2 - 1))
  obtain ⟨ocE, _⟩ := own_cells hE
  refine bodyPost_ret (v := .agg #[.int .i64 (m1 - 1), .int .i64 (m2 - 1)]) ?_ rfl ?_
  · clear cc_hR ff_hR
    simp only [results, Tryd.results13]
    go_simp
  · refine ⟨m1 - 1, m2 - 1, rfl, Kept.below' (x := x) ?_ (by omega)⟩
    (repeat (first | with_reducible exact t2 | with_reducible refine Kept.setCell_new ?_ ?_ _ | with_reducible refine Kept.alloc ?_ _ | with_reducible refine Kept.drew ?_)); (all_goals (first | omega | (simp <;> omega)))
end Go.Proofs.YtmgikgcoigcadaaDoor
