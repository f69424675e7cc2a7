/- The walk of the law FnRightStrict, on a drawn text. What it asks is that the package's sentinel lies in its variable. -/
import Derived.Test.YtehnnnopjghbpaaDoorDrawRgtRd
namespace Go.Proofs.YtehnnnopjghbpaaDoor
set_option maxRecDepth 100000
open Go.RowKit
set_option linter.unusedVariables false

set_option maxHeartbeats 2000000 in
theorem fnRightStrict_walk (w : World) (a : Option Addr) (len cap : Nat) (z : List Int) (hr : IsRow .u8 w a len cap z) (b0 : Addr) (hS : Sent b0 w) :
    Calls Tryd.prog 4 #[.slice a len cap] w fun e w' => e = .returned (.bool true) ∧ Below w.heap.size w w' := by
  have t0 : Below w.heap.size w w := Below.refl _ _
  by_cases hl : 1048576 < len
  · go_enter Tryd.func4, Tryd.ntmps4
    go_wp2_with fail
    go_ret
    exact ⟨rfl, t0⟩
  have HS := hid hS
  clear hS
  go_enter Tryd.func4, Tryd.ntmps4
  go_wp2_with fail
  refine (drawRightRead_any _ _ _ _ _ hr).mono ?_
  rintro e w1 ⟨s, rfl, hs, tt⟩
  clear hr t0 hl
  obtain ⟨t, v, r, wr, k, ok, H1, H2, H3⟩ := rightReads b0 s (by omega)
  have H1' := hid H1
  have H2' := hid H2
  clear H1 H2
  cases ok
  · clear H3
    go_wp2_with fail
    refine (H2'.out _).mono ?_
    rintro e w' ⟨rfl, hb⟩
    have zt := tt.size
    replace tt : Below w.heap.size w w' := by (refine Below.trans ?_ (hb.mono ?_)); (all_goals (repeat (first | with_reducible exact tt | (with_reducible refine Below.setCell ?_ ?_ _) | (with_reducible refine Below.alloc ?_ ?_ _) | with_reducible refine Below.drew ?_)); (all_goals (first | omega | (simp <;> omega))))
    clear zt
    clear hb
    have hX := own_new w' (.cells #[.int .i64 t, .int .i64 v, .bool r, .bool wr, .bool k] 24)
    have HS1 : Sent b0 w' := HS.out.below tt
    have HS1' := hid HS1
    clear HS1
    go_wp2_with fail
    refine (H1'.out _ (HS1'.out.alloc _)).mono ?_
    rintro e w' ⟨rfl, hb⟩
    (try clear cc_hX ff_hX); (try clear zz_hX zy_hX)
    have zt := tt.size
    replace tt : Below w.heap.size w w' := by (refine Below.trans ?_ (hb.mono ?_)); (all_goals (repeat (first | with_reducible exact tt | (with_reducible refine Below.setCell ?_ ?_ _) | (with_reducible refine Below.alloc ?_ ?_ _) | with_reducible refine Below.drew ?_)); (all_goals (first | omega | (simp <;> omega))))
    clear zt
    replace hX := own_below hb (by repeat (first | exact hX | apply own_alloc))
    obtain ⟨cc_hX, ff_hX⟩ := own_cells hX; have zz_hX := own_lt hX; have zy_hX := Nat.lt_add_right 1 (own_lt hX)
    clear hb
    have hY := own_new w' (.cells #[.int .i64 t, .int .i64 v, .bool r, .bool wr, .bool k] 24)
    go_wp2_with fail
    go_ret
    refine ⟨rfl, ?_⟩
    have zt := tt.size
    (repeat (first | with_reducible exact tt | (with_reducible refine Below.setCell ?_ ?_ _) | (with_reducible refine Below.alloc ?_ ?_ _) | (with_reducible refine Below.drew ?_) | with_reducible refine Below.drewN' ?_ _)); (all_goals (first | omega | (simp <;> omega)))
  · obtain ⟨e1, e2⟩ := H3 rfl
    have H4 := rightText_any t v r wr k
    rw [e2] at H4
    have H4' := hid H4
    clear H3 H4 e2
    go_wp2_with fail
    refine (H2'.out _).mono ?_
    rintro e w' ⟨rfl, hb⟩
    have zt := tt.size
    replace tt : Below w.heap.size w w' := by (refine Below.trans ?_ (hb.mono ?_)); (all_goals (repeat (first | with_reducible exact tt | (with_reducible refine Below.setCell ?_ ?_ _) | (with_reducible refine Below.alloc ?_ ?_ _) | with_reducible refine Below.drew ?_)); (all_goals (first | omega | (simp <;> omega))))
    clear zt
    clear hb
    have hX := own_new w' (.cells #[.int .i64 t, .int .i64 v, .bool r, .bool wr, .bool k] 24)
    have HS1 : Sent b0 w' := HS.out.below tt
    have HS1' := hid HS1
    clear HS1
    go_wp2_with fail
    refine (H1'.out _ (HS1'.out.alloc _)).mono ?_
    rintro e w' ⟨rfl, hb⟩
    (try clear cc_hX ff_hX); (try clear zz_hX zy_hX)
    have zt := tt.size
    replace tt : Below w.heap.size w w' := by (refine Below.trans ?_ (hb.mono ?_)); (all_goals (repeat (first | with_reducible exact tt | (with_reducible refine Below.setCell ?_ ?_ _) | (with_reducible refine Below.alloc ?_ ?_ _) | with_reducible refine Below.drew ?_)); (all_goals (first | omega | (simp <;> omega))))
    clear zt
    replace hX := own_below hb (by repeat (first | exact hX | apply own_alloc))
    obtain ⟨cc_hX, ff_hX⟩ := own_cells hX; have zz_hX := own_lt hX; have zy_hX := Nat.lt_add_right 1 (own_lt hX)
    clear hb
    have hY := own_new w' (.cells #[.int .i64 t, .int .i64 v, .bool r, .bool wr, .bool k] 24)
    go_wp2_with fail
    refine (rightOk_any _ _ _ _ _ _).mono ?_
    rintro e w' ⟨rfl, hb⟩
    (try clear cc_hX ff_hX); (try clear zz_hX zy_hX)
    (try clear cc_hY ff_hY); (try clear zz_hY zy_hY)
    have zt := tt.size
    replace tt : Below w.heap.size w w' := by (refine Below.trans ?_ (hb.mono ?_)); (all_goals (repeat (first | with_reducible exact tt | (with_reducible refine Below.setCell ?_ ?_ _) | (with_reducible refine Below.alloc ?_ ?_ _) | with_reducible refine Below.drew ?_)); (all_goals (first | omega | (simp <;> omega))))
    clear zt
    replace hX := own_below hb (by repeat (first | exact hX | apply own_alloc))
    replace hY := own_below hb (by repeat (first | exact hY | apply own_alloc))
    obtain ⟨cc_hX, ff_hX⟩ := own_cells hX; have zz_hX := own_lt hX; have zy_hX := Nat.lt_add_right 1 (own_lt hX)
    obtain ⟨cc_hY, ff_hY⟩ := own_cells hY; have zz_hY := own_lt hY; have zy_hY := Nat.lt_add_right 1 (own_lt hY)
    clear hb
    go_wp2_with fail
    refine (H4'.out _).mono ?_
    rintro e w' ⟨rfl, hb⟩
    (try clear cc_hX ff_hX); (try clear zz_hX zy_hX)
    (try clear cc_hY ff_hY); (try clear zz_hY zy_hY)
    have zt := tt.size
    replace tt : Below w.heap.size w w' := by (refine Below.trans ?_ (hb.mono ?_)); (all_goals (repeat (first | with_reducible exact tt | (with_reducible refine Below.setCell ?_ ?_ _) | (with_reducible refine Below.alloc ?_ ?_ _) | with_reducible refine Below.drew ?_)); (all_goals (first | omega | (simp <;> omega))))
    clear zt
    replace hX := own_below hb (by repeat (first | exact hX | apply own_alloc))
    replace hY := own_below hb (by repeat (first | exact hY | apply own_alloc))
    obtain ⟨cc_hX, ff_hX⟩ := own_cells hX; have zz_hX := own_lt hX; have zy_hX := Nat.lt_add_right 1 (own_lt hX)
    obtain ⟨cc_hY, ff_hY⟩ := own_cells hY; have zz_hY := own_lt hY; have zy_hY := Nat.lt_add_right 1 (own_lt hY)
    clear hb
    go_wp2_with fail
    go_ret
    exact ⟨rfl, tt⟩
end Go.Proofs.YtehnnnopjghbpaaDoor
