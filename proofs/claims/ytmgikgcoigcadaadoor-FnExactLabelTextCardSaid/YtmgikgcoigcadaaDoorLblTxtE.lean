/- The walk of the law FnExactLabelText. No condition. -/
import Derived.Test.YtmgikgcoigcadaaDoorTxt
namespace Go.Proofs.YtmgikgcoigcadaaDoor
set_option maxRecDepth 100000
open Go.RowKit
set_option linter.unusedVariables false

set_option maxHeartbeats 1000000 in
theorem fnExactLabelText_walk (w : World) (s v : Int) (ws : (Lit.int .i64 s).wf = true) (wv : (Lit.int .i64 v).wf = true) :
    Calls Tryd.prog 5 #[.agg #[.int .i64 s, .int .i64 v]] w fun e w' => e = .returned (.bool true) ∧ Below w.heap.size w w' := by
  have tt : Below w.heap.size w w := Below.refl _ _
  have hA := own_new w (.cells #[.int .i64 s, .int .i64 v] 35)
  have H1 := slabelText_any s v
  have H2 := labelText_any s v
  generalize txt (lblTxt s v) = S at H1 H2
  have H1' := hid H1
  have H2' := hid H2
  clear H1 H2 ws wv
  go_enter Tryd.func5, Tryd.ntmps5
  go_wp2_with fail
  refine (toLabel_any _ _ _).mono ?_
  rintro e w' ⟨rfl, hb⟩
  (try clear cc_hA ff_hA); (try clear zz_hA zy_hA)
  have zt := tt.size
  replace tt : Below w.heap.size w w' := by (refine Below.trans ?_ (hb.mono ?_)); (all_goals (repeat (first | with_reducible exact tt | (with_reducible refine Below.setCell ?_ ?_ _) | (with_reducible refine Below.alloc ?_ ?_ _) | with_reducible refine Below.drew ?_)); (all_goals (first | omega | (simp <;> omega))))
  clear zt
  replace hA := own_below hb (by repeat (first | exact hA | apply own_alloc))
  obtain ⟨cc_hA, ff_hA⟩ := own_cells hA; have zz_hA := own_lt hA; have zy_hA := Nat.lt_add_right 1 (own_lt hA)
  clear hb
  go_wp2_with fail
  refine (H1'.out _).mono ?_
  rintro e w' ⟨rfl, hb⟩
  (try clear cc_hA ff_hA); (try clear zz_hA zy_hA)
  have zt := tt.size
  replace tt : Below w.heap.size w w' := by (refine Below.trans ?_ (hb.mono ?_)); (all_goals (repeat (first | with_reducible exact tt | (with_reducible refine Below.setCell ?_ ?_ _) | (with_reducible refine Below.alloc ?_ ?_ _) | with_reducible refine Below.drew ?_)); (all_goals (first | omega | (simp <;> omega))))
  clear zt
  replace hA := own_below hb (by repeat (first | exact hA | apply own_alloc))
  obtain ⟨cc_hA, ff_hA⟩ := own_cells hA; have zz_hA := own_lt hA; have zy_hA := Nat.lt_add_right 1 (own_lt hA)
  clear hb
  go_wp2_with fail
  refine (toLabel_any _ _ _).mono ?_
  rintro e w' ⟨rfl, hb⟩
  (try clear cc_hA ff_hA); (try clear zz_hA zy_hA)
  have zt := tt.size
  replace tt : Below w.heap.size w w' := by (refine Below.trans ?_ (hb.mono ?_)); (all_goals (repeat (first | with_reducible exact tt | (with_reducible refine Below.setCell ?_ ?_ _) | (with_reducible refine Below.alloc ?_ ?_ _) | with_reducible refine Below.drew ?_)); (all_goals (first | omega | (simp <;> omega))))
  clear zt
  replace hA := own_below hb (by repeat (first | exact hA | apply own_alloc))
  obtain ⟨cc_hA, ff_hA⟩ := own_cells hA; have zz_hA := own_lt hA; have zy_hA := Nat.lt_add_right 1 (own_lt hA)
  clear hb
  go_wp2_with fail
  refine (H2'.out _).mono ?_
  rintro e w' ⟨rfl, hb⟩
  (try clear cc_hA ff_hA); (try clear zz_hA zy_hA)
  have zt := tt.size
  replace tt : Below w.heap.size w w' := by (refine Below.trans ?_ (hb.mono ?_)); (all_goals (repeat (first | with_reducible exact tt | (with_reducible refine Below.setCell ?_ ?_ _) | (with_reducible refine Below.alloc ?_ ?_ _) | with_reducible refine Below.drew ?_)); (all_goals (first | omega | (simp <;> omega))))
  clear zt
  replace hA := own_below hb (by repeat (first | exact hA | apply own_alloc))
  obtain ⟨cc_hA, ff_hA⟩ := own_cells hA; have zz_hA := own_lt hA; have zy_hA := Nat.lt_add_right 1 (own_lt hA)
  clear hb
  go_wp2_with fail
  go_ret
  exact ⟨rfl, tt⟩
end Go.Proofs.YtmgikgcoigcadaaDoor
