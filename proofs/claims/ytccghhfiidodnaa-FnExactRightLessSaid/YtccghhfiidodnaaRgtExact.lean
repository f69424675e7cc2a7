/- The walks of the laws FnExactRightIn and FnExactRightLess. No condition. -/
import Derived.Test.YtccghhfiidodnaaRgt2
namespace Go.Proofs.Ytccghhfiidodnaa
open Go.RowKit
set_option linter.unusedVariables false

set_option maxHeartbeats 1000000 in
theorem fnExactRightIn_walk (w : World) (t1 v1 : Int) (r1 w1 k1 : Bool) (t2 v2 : Int) (r2 w2 k2 : Bool) :
    Calls Try.prog 3 #[.agg #[.int .i64 t1, .int .i64 v1, .bool r1, .bool w1, .bool k1], .agg #[.int .i64 t2, .int .i64 v2, .bool r2, .bool w2, .bool k2]] w fun e w' => e = .returned (.bool true) ∧ Below w.heap.size w w' := by
  have tt : Below w.heap.size w w := Below.refl _ _
  have hA := own_alloc (own_new w (.cells #[.int .i64 t1, .int .i64 v1, .bool r1, .bool w1, .bool k1] 23)) (.cells #[.int .i64 t2, .int .i64 v2, .bool r2, .bool w2, .bool k2] 23)
  have hB := own_new (w.alloc (.cells #[.int .i64 t1, .int .i64 v1, .bool r1, .bool w1, .bool k1] 23)) (.cells #[.int .i64 t2, .int .i64 v2, .bool r2, .bool w2, .bool k2] 23)
  simp only [World.size_alloc] at hB
  go_enter Try.func3, Try.ntmps3
  go_wp2_with fail
  refine named (p := fun W => Code.wp _ _ _ _ W) _ ?_
  intro W hW
  (try clear cc_hA ff_hA); (try clear zz_hA zy_hA)
  (try clear cc_hB ff_hB); (try clear zz_hB zy_hB)
  have zt := tt.size
  replace tt : Below w.heap.size w W := by
    rw [← hW]
    (repeat (first | with_reducible exact tt | (with_reducible refine Below.setCell ?_ ?_ _) | (with_reducible refine Below.alloc ?_ ?_ _) | with_reducible refine Below.drew ?_)); (all_goals (first | omega | (simp <;> omega)))
  replace hA := own_eq hW (by repeat (first | exact hA | apply own_alloc))
  replace hB := own_eq hW (by repeat (first | exact hB | apply own_alloc))
  clear hW zt
  refine wp_region_quiet_below (by kernel_rfl) (by kernel_rfl) ?_
  repeat (first
    | (refine qskip rfl (fun K hK => ?_); go_simp; refine hK _ ?_; clear hK K)
    | (apply qval rfl; (case h => (intro u hu; obtain ⟨_, _⟩ := own_cells (own_below hu hA); obtain ⟨_, _⟩ := own_cells (own_below hu hB); go_simp; exact rfl)); (intro K hK; go_simp; refine hK _ ?_; clear hK K))
    | (apply qcall rfl; (case h => (intro u hu; go_simp; exact ⟨rfl, rfl⟩)); (case hc => (intro u hu; with_reducible exact Calls.in_below hu (toRight_any _ _ _ _ _ _))); (intro K hK; go_simp; refine hK _ ?_; clear hK K))
    | (apply qcall rfl; (case h => (intro u hu; go_simp; exact ⟨rfl, rfl⟩)); (case hc => (intro u hu; with_reducible exact Calls.in_below hu (srightIn_any _ _ _ _ _ _ _ _ _ _ _))); (intro K hK; go_simp; refine hK _ ?_; clear hK K)))
  refine wpQuiet_nil ?_
  intro w' hu
  replace tt := tt.trans (hu.mono tt.size)
  replace hA := own_below hu hA
  replace hB := own_below hu hB
  obtain ⟨cc_hA, ff_hA⟩ := own_cells hA; have zz_hA := own_lt hA; have zy_hA := Nat.lt_add_right 1 (own_lt hA)
  obtain ⟨cc_hB, ff_hB⟩ := own_cells hB; have zz_hB := own_lt hB; have zy_hB := Nat.lt_add_right 1 (own_lt hB)
  clear hu
  go_wp2_with fail
  refine named (p := fun W => Code.wp _ _ _ _ W) _ ?_
  intro W hW
  (try clear cc_hA ff_hA); (try clear zz_hA zy_hA)
  (try clear cc_hB ff_hB); (try clear zz_hB zy_hB)
  have zt := tt.size
  replace tt : Below w.heap.size w W := by
    rw [← hW]
    (repeat (first | with_reducible exact tt | (with_reducible refine Below.setCell ?_ ?_ _) | (with_reducible refine Below.alloc ?_ ?_ _) | with_reducible refine Below.drew ?_)); (all_goals (first | omega | (simp <;> omega)))
  replace hA := own_eq hW (by repeat (first | exact hA | apply own_alloc))
  replace hB := own_eq hW (by repeat (first | exact hB | apply own_alloc))
  clear hW zt
  refine wp_region_quiet_below (by kernel_rfl) (by kernel_rfl) ?_
  repeat (first
    | (refine qskip rfl (fun K hK => ?_); go_simp; refine hK _ ?_; clear hK K)
    | (apply qval rfl; (case h => (intro u hu; obtain ⟨_, _⟩ := own_cells (own_below hu hA); obtain ⟨_, _⟩ := own_cells (own_below hu hB); go_simp; exact rfl)); (intro K hK; go_simp; refine hK _ ?_; clear hK K))
    | (apply qcall rfl; (case h => (intro u hu; go_simp; exact ⟨rfl, rfl⟩)); (case hc => (intro u hu; with_reducible exact Calls.in_below hu (toRight_any _ _ _ _ _ _))); (intro K hK; go_simp; refine hK _ ?_; clear hK K))
    | (apply qcall rfl; (case h => (intro u hu; go_simp; exact ⟨rfl, rfl⟩)); (case hc => (intro u hu; with_reducible exact Calls.in_below hu (rightIn_any _ _ _ _ _ _ _ _ _ _ _))); (intro K hK; go_simp; refine hK _ ?_; clear hK K)))
  refine wpQuiet_nil ?_
  intro w' hu
  replace tt := tt.trans (hu.mono tt.size)
  replace hA := own_below hu hA
  replace hB := own_below hu hB
  obtain ⟨cc_hA, ff_hA⟩ := own_cells hA; have zz_hA := own_lt hA; have zy_hA := Nat.lt_add_right 1 (own_lt hA)
  obtain ⟨cc_hB, ff_hB⟩ := own_cells hB; have zz_hB := own_lt hB; have zy_hB := Nat.lt_add_right 1 (own_lt hB)
  clear hu
  go_wp2_with fail
  go_ret
  exact ⟨rfl, tt⟩
set_option maxHeartbeats 1000000 in
theorem fnExactRightLess_walk (w : World) (t v : Int) (r wr k rd wt st : Bool) :
    Calls Try.prog 5 #[.agg #[.int .i64 t, .int .i64 v, .bool r, .bool wr, .bool k], .bool rd, .bool wt, .bool st] w fun e w' => e = .returned (.bool true) ∧ Below w.heap.size w w' := by
  have tt : Below w.heap.size w w := Below.refl _ _
  have hA := own_new w (.cells #[.int .i64 t, .int .i64 v, .bool r, .bool wr, .bool k] 23)
  have H1 := srightLess_any t v r wr k rd wt st
  have H2 := rightLess_any t v r wr k rd wt st
  generalize lessT t v r wr k = q1 at H1 H2
  generalize lessV t v r wr k = q2 at H1 H2
  generalize lessR t v r wr k rd = q3 at H1 H2
  generalize lessW t v r wr k wt st = q4 at H1 H2
  generalize lessK t v r wr k st = q5 at H1 H2
  have hq : rgtEq q1 q2 q3 q4 q5 q1 q2 q3 q4 q5 = true := by simp [rgtEq]
  have H1' := hid H1
  have H2' := hid H2
  clear H1 H2
  go_enter Try.func5, Try.ntmps5
  go_wp2_with fail
  refine (toRight_any _ _ _ _ _ _).mono ?_
  rintro e w' ⟨rfl, hb⟩
  (try clear cc_hA ff_hA); (try clear zz_hA zy_hA)
  have zt := tt.size
  replace tt : Below w.heap.size w w' := by (refine Below.trans ?_ (hb.mono ?_)); (all_goals (repeat (first | with_reducible exact tt | (with_reducible refine Below.setCell ?_ ?_ _) | (with_reducible refine Below.alloc ?_ ?_ _) | with_reducible refine Below.drew ?_)); (all_goals (first | omega | (simp <;> omega))))
  clear zt
  replace hA := own_below hb (by repeat (first | exact hA | apply own_alloc))
  obtain ⟨cc_hA, ff_hA⟩ := own_cells hA; have zz_hA := own_lt hA; have zy_hA := Nat.lt_add_right 1 (own_lt hA)
  clear hb
  go_wp2_with fail
  refine (H1'.out _).mono ?_
  rintro e w' ⟨rfl, hb⟩
  (try clear cc_hA ff_hA); (try clear zz_hA zy_hA)
  have zt := tt.size
  replace tt : Below w.heap.size w w' := by (refine Below.trans ?_ (hb.mono ?_)); (all_goals (repeat (first | with_reducible exact tt | (with_reducible refine Below.setCell ?_ ?_ _) | (with_reducible refine Below.alloc ?_ ?_ _) | with_reducible refine Below.drew ?_)); (all_goals (first | omega | (simp <;> omega))))
  clear zt
  replace hA := own_below hb (by repeat (first | exact hA | apply own_alloc))
  obtain ⟨cc_hA, ff_hA⟩ := own_cells hA; have zz_hA := own_lt hA; have zy_hA := Nat.lt_add_right 1 (own_lt hA)
  clear hb
  have hW := own_new w' (.cells #[.int .i64 q1, .int .i64 q2, .bool q3, .bool q4, .bool q5] 25)
  go_wp2_with fail
  refine (toRight_any _ _ _ _ _ _).mono ?_
  rintro e w' ⟨rfl, hb⟩
  (try clear cc_hA ff_hA); (try clear zz_hA zy_hA)
  (try clear cc_hW ff_hW); (try clear zz_hW zy_hW)
  have zt := tt.size
  replace tt : Below w.heap.size w w' := by (refine Below.trans ?_ (hb.mono ?_)); (all_goals (repeat (first | with_reducible exact tt | (with_reducible refine Below.setCell ?_ ?_ _) | (with_reducible refine Below.alloc ?_ ?_ _) | with_reducible refine Below.drew ?_)); (all_goals (first | omega | (simp <;> omega))))
  clear zt
  replace hA := own_below hb (by repeat (first | exact hA | apply own_alloc))
  replace hW := own_below hb (by repeat (first | exact hW | apply own_alloc))
  obtain ⟨cc_hA, ff_hA⟩ := own_cells hA; have zz_hA := own_lt hA; have zy_hA := Nat.lt_add_right 1 (own_lt hA)
  obtain ⟨cc_hW, ff_hW⟩ := own_cells hW; have zz_hW := own_lt hW; have zy_hW := Nat.lt_add_right 1 (own_lt hW)
  clear hb
  go_wp2_with fail
  refine (H2'.out _).mono ?_
  rintro e w' ⟨rfl, hb⟩
  (try clear cc_hA ff_hA); (try clear zz_hA zy_hA)
  (try clear cc_hW ff_hW); (try clear zz_hW zy_hW)
  have zt := tt.size
  replace tt : Below w.heap.size w w' := by (refine Below.trans ?_ (hb.mono ?_)); (all_goals (repeat (first | with_reducible exact tt | (with_reducible refine Below.setCell ?_ ?_ _) | (with_reducible refine Below.alloc ?_ ?_ _) | with_reducible refine Below.drew ?_)); (all_goals (first | omega | (simp <;> omega))))
  clear zt
  replace hA := own_below hb (by repeat (first | exact hA | apply own_alloc))
  replace hW := own_below hb (by repeat (first | exact hW | apply own_alloc))
  obtain ⟨cc_hA, ff_hA⟩ := own_cells hA; have zz_hA := own_lt hA; have zy_hA := Nat.lt_add_right 1 (own_lt hA)
  obtain ⟨cc_hW, ff_hW⟩ := own_cells hW; have zz_hW := own_lt hW; have zy_hW := Nat.lt_add_right 1 (own_lt hW)
  clear hb
  have hG := own_new w' (.cells #[.int .i64 q1, .int .i64 q2, .bool q3, .bool q4, .bool q5] 25)
  go_wp2_with fail
  refine (eqRight_any _ _ _ _ _ _ _ _ _ _ _).mono ?_
  rintro e w' ⟨rfl, hb⟩
  (try clear cc_hA ff_hA); (try clear zz_hA zy_hA)
  (try clear cc_hW ff_hW); (try clear zz_hW zy_hW)
  (try clear cc_hG ff_hG); (try clear zz_hG zy_hG)
  have zt := tt.size
  replace tt : Below w.heap.size w w' := by (refine Below.trans ?_ (hb.mono ?_)); (all_goals (repeat (first | with_reducible exact tt | (with_reducible refine Below.setCell ?_ ?_ _) | (with_reducible refine Below.alloc ?_ ?_ _) | with_reducible refine Below.drew ?_)); (all_goals (first | omega | (simp <;> omega))))
  clear zt
  replace hA := own_below hb (by repeat (first | exact hA | apply own_alloc))
  replace hW := own_below hb (by repeat (first | exact hW | apply own_alloc))
  replace hG := own_below hb (by repeat (first | exact hG | apply own_alloc))
  obtain ⟨cc_hA, ff_hA⟩ := own_cells hA; have zz_hA := own_lt hA; have zy_hA := Nat.lt_add_right 1 (own_lt hA)
  obtain ⟨cc_hW, ff_hW⟩ := own_cells hW; have zz_hW := own_lt hW; have zy_hW := Nat.lt_add_right 1 (own_lt hW)
  obtain ⟨cc_hG, ff_hG⟩ := own_cells hG; have zz_hG := own_lt hG; have zy_hG := Nat.lt_add_right 1 (own_lt hG)
  clear hb
  go_wp2_with fail
  go_ret
  exact ⟨rfl, tt⟩
end Go.Proofs.Ytccghhfiidodnaa
