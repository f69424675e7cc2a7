/- The draws of a right for its text, of a label for its text. No condition but that the code is a row of bytes. -/
import Derived.Test.YtehnnnopjghbpaaDoorDrawRgt2
import Derived.Test.YtehnnnopjghbpaaDoorDrawLab2
namespace Go.Proofs.YtehnnnopjghbpaaDoor
set_option maxRecDepth 100000
open Go.RowKit
set_option linter.unusedVariables false

set_option maxHeartbeats 2000000 in
theorem drawRightText_any (a : Option Addr) (len cap : Nat) (z : List Int) (w : World) (hr : IsRow .u8 w a len cap z) :
    Calls Tryd.prog 5 #[.slice a len cap] w (RightsDrawn1 w) := by
  have hR := own_new w (.cells #[.int .i64 0, .int .i64 0, .bool false, .bool false, .bool false] 24)
  go_enter Tryd.func5, Tryd.ntmps5
  go_wp2_with fail
  refine (l6Open_any _ _ _ _ _ (hr.alloc _)).mono ?_
  rintro e w0 ⟨x, hx0, rfl, r0, b0⟩
  have z0 := b0.size
  try simp at z0
  have lx0 := r0.lt
  try simp at hx0
  have z0_0 : w.heap.size < w0.heap.size := by omega
  have y0_0 : ¬ w.heap.size = x := by omega
  have t0 : Kept x w w0 := by
    refine Kept.of_below ?_ b0
    · repeat (first | exact Kept.refl _ _ | refine Kept.alloc ?_ _)
  obtain ⟨c0, f0⟩ := bcell b0
  replace hR := own_below b0 hR
  clear b0 c0 f0
  go_wp2_with fail
  refine (l71Right_any _ _ _ (by (repeat (first | with_reducible exact r0 | with_reducible apply Rd.setCell | with_reducible apply Rd.alloc | with_reducible apply Rd.drew)); (all_goals (first | omega | (simp <;> omega)))) (by omega) (by omega)).mono ?_
  rintro e w1 ⟨g1, v1, r'1, wr1, k'1, rfl, _, _, _, _, p1, lp1, up1, r1, k1⟩
  have z1 := k1.size
  try simp at z1
  have lx1 := r1.lt
  have z1_0 : w.heap.size < w1.heap.size := by omega
  have y1_0 : ¬ w.heap.size = x := by omega
  have t1 : Kept x w w1 := by
    refine Kept.trans ?_ k1
    · (repeat (first | with_reducible exact t0 | with_reducible refine Kept.setCell_new ?_ ?_ _ | with_reducible refine Kept.alloc ?_ _ | with_reducible refine Kept.drew ?_)); (all_goals (first | omega | (simp <;> omega)))
  obtain ⟨c1, f1⟩ := kcell k1
  replace hR := own_kept k1 (by omega) hR
  clear c1 f1 k1
  obtain ⟨cc_hR, ff_hR⟩ := own_cells hR
  go_wp2_with fail
  have hE := own_set (own_set (own_set (own_set (own_set hR 0 (.int .i64 g1)) 1 (.int .i64 v1)) 2 (.bool r'1)) 3 (.bool wr1)) 4 (.bool k'1)
  obtain ⟨ocE, _⟩ := own_cells hE
  refine bodyPost_ret (v := .agg #[.int .i64 g1, .int .i64 v1, .bool r'1, .bool wr1, .bool k'1]) ?_ rfl ?_
  · clear cc_hR ff_hR
    simp only [results, Tryd.results5]
    go_simp
  · refine ⟨g1, v1, r'1, wr1, k'1, rfl, Kept.below' (x := x) ?_ (by omega)⟩
    (repeat (first | with_reducible exact t1 | with_reducible refine Kept.setCell_new ?_ ?_ _ | with_reducible refine Kept.alloc ?_ _ | with_reducible refine Kept.drew ?_)); (all_goals (first | omega | (simp <;> omega)))
/-- A drawn label. -/
def LabelsDrawn1 (w : World) (e : Ending) (w' : World) : Prop :=
  ∃ s v : Int, e = .returned (.agg #[.int .i64 s, .int .i64 v]) ∧ Below w.heap.size w w'
end Go.Proofs.YtehnnnopjghbpaaDoor
