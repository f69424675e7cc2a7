/- The contract of the program's text of a right. No condition. -/
import Derived.Test.YtcgmnpppdoadhaaDoorRgtTxt2
namespace Go.Proofs.YtcgmnpppdoadhaaDoor
set_option maxRecDepth 100000
open Go.RowKit
set_option linter.unusedVariables false
theorem method_t_none (v : Value) (w : World) : (method 309 162 v "loop.example/drawbar/impl.text").run Tryd.prog w = .ok (161, v) w := by kernel_rfl
theorem method_t_some (v : Value) (w : World) : (method 309 164 v "loop.example/drawbar/impl.text").run Tryd.prog w = .ok (163, v) w := by kernel_rfl
set_option maxHeartbeats 2000000 in
theorem rightText_any (t v : Int) (r wr k : Bool) (w : World) :
    Calls Tryd.prog 97 #[.agg #[.int .i64 t, .int .i64 v, .bool r, .bool wr, .bool k]] w fun e w' => e = .returned (.string (txt (rgtTxt t v r wr k))) ∧ Below w.heap.size w w' := by
  have tt : Below w.heap.size w w := Below.refl _ _
  have hA := own_new w (.cells #[.int .i64 t, .int .i64 v, .bool r, .bool wr, .bool k] 38)
  have hm1 := method_t_none
  have hm2 := method_t_some
  cases e1 : rgtOk t v r wr k
  · have e2 : rgtTxt t v r wr k = [] := by simp [rgtTxt, e1]
    rw [e2]
    go_enter Tryd.func97, Tryd.ntmps97
    go_wp2_with fail
    refine (rightOk_any _ _ _ _ _ _).mono ?_
    rintro e w' ⟨rfl, hb⟩
    (try clear cc_hA ff_hA); (try clear zz_hA zy_hA)
    have zt := tt.size
    replace tt : Below w.heap.size w w' := by (refine Below.trans ?_ (hb.mono ?_)); (all_goals (repeat (first | with_reducible exact tt | (with_reducible refine Below.setCell ?_ ?_ _) | (with_reducible refine Below.alloc ?_ ?_ _) | with_reducible refine Below.drew ?_)); (all_goals (first | omega | (simp <;> omega))))
    clear zt
    replace hA := own_below hb (by repeat (first | exact hA | apply own_alloc))
    obtain ⟨cc_hA, ff_hA⟩ := own_cells hA; have zz_hA := own_lt hA; have zy_hA := Nat.lt_add_right 1 (own_lt hA)
    clear hb
    go_wp2_with fail
    go_ret
    exact ⟨rfl, tt⟩
  obtain ⟨b1, b2, b3, b4⟩ := rgtOk_bd e1
  cases e3 : (t == 0)
  · obtain ⟨m, rfl⟩ := Int.eq_ofNat_of_zero_le b1
    obtain ⟨n, rfl⟩ := Int.eq_ofNat_of_zero_le b3
    have e2 : rgtTxt m n r wr k = dec m ++ [46] ++ dec n ++ [flc r 114] ++ [flc wr 119] ++ [flc k 107] := by simp [rgtTxt, e1, e3]
    have H := text_some m n r wr k (by omega) (by omega)
    rw [← e2] at H
    have H' := hid H
    clear H e2
    go_enter Tryd.func97, Tryd.ntmps97
    go_wp2_with fail
    refine (rightOk_any _ _ _ _ _ _).mono ?_
    rintro e w' ⟨rfl, hb⟩
    (try clear cc_hA ff_hA); (try clear zz_hA zy_hA)
    have zt := tt.size
    replace tt : Below w.heap.size w w' := by (refine Below.trans ?_ (hb.mono ?_)); (all_goals (repeat (first | with_reducible exact tt | (with_reducible refine Below.setCell ?_ ?_ _) | (with_reducible refine Below.alloc ?_ ?_ _) | with_reducible refine Below.drew ?_)); (all_goals (first | omega | (simp <;> omega))))
    clear zt
    replace hA := own_below hb (by repeat (first | exact hA | apply own_alloc))
    obtain ⟨cc_hA, ff_hA⟩ := own_cells hA; have zz_hA := own_lt hA; have zy_hA := Nat.lt_add_right 1 (own_lt hA)
    clear hb
    go_wp2_with fail
    refine (capabilityOf_some _ _ _ _ _ e3 _).mono ?_
    rintro e w' ⟨rfl, hb⟩
    (try clear cc_hA ff_hA); (try clear zz_hA zy_hA)
    have zt := tt.size
    replace tt : Below w.heap.size w w' := by (refine Below.trans ?_ (hb.mono ?_)); (all_goals (repeat (first | with_reducible exact tt | (with_reducible refine Below.setCell ?_ ?_ _) | (with_reducible refine Below.alloc ?_ ?_ _) | with_reducible refine Below.drew ?_)); (all_goals (first | omega | (simp <;> omega))))
    clear zt
    replace hA := own_below hb (by repeat (first | exact hA | apply own_alloc))
    obtain ⟨cc_hA, ff_hA⟩ := own_cells hA; have zz_hA := own_lt hA; have zy_hA := Nat.lt_add_right 1 (own_lt hA)
    clear hb
    go_wp2_with fail
    refine (H'.out _).mono ?_
    rintro e w' ⟨rfl, hb⟩
    (try clear cc_hA ff_hA); (try clear zz_hA zy_hA)
    have zt := tt.size
    replace tt : Below w.heap.size w w' := by (refine Below.trans ?_ (hb.mono ?_)); (all_goals (repeat (first | with_reducible exact tt | (with_reducible refine Below.setCell ?_ ?_ _) | (with_reducible refine Below.alloc ?_ ?_ _) | with_reducible refine Below.drew ?_)); (all_goals (first | omega | (simp <;> omega))))
    clear zt
    replace hA := own_below hb (by repeat (first | exact hA | apply own_alloc))
    obtain ⟨cc_hA, ff_hA⟩ := own_cells hA; have zz_hA := own_lt hA; have zy_hA := Nat.lt_add_right 1 (own_lt hA)
    clear hb
    go_wp2_with fail
    go_ret
    exact ⟨rfl, tt⟩
  · obtain rfl : t = 0 := by simpa using e3
    have e2 : rgtTxt 0 v r wr k = [45] := by simp [rgtTxt, e1]
    rw [e2]
    go_enter Tryd.func97, Tryd.ntmps97
    go_wp2_with fail
    refine (rightOk_any _ _ _ _ _ _).mono ?_
    rintro e w' ⟨rfl, hb⟩
    (try clear cc_hA ff_hA); (try clear zz_hA zy_hA)
    have zt := tt.size
    replace tt : Below w.heap.size w w' := by (refine Below.trans ?_ (hb.mono ?_)); (all_goals (repeat (first | with_reducible exact tt | (with_reducible refine Below.setCell ?_ ?_ _) | (with_reducible refine Below.alloc ?_ ?_ _) | with_reducible refine Below.drew ?_)); (all_goals (first | omega | (simp <;> omega))))
    clear zt
    replace hA := own_below hb (by repeat (first | exact hA | apply own_alloc))
    obtain ⟨cc_hA, ff_hA⟩ := own_cells hA; have zz_hA := own_lt hA; have zy_hA := Nat.lt_add_right 1 (own_lt hA)
    clear hb
    go_wp2_with fail
    refine (capabilityOf_none _ _ _ _ _).mono ?_
    rintro e w' ⟨rfl, hb⟩
    (try clear cc_hA ff_hA); (try clear zz_hA zy_hA)
    have zt := tt.size
    replace tt : Below w.heap.size w w' := by (refine Below.trans ?_ (hb.mono ?_)); (all_goals (repeat (first | with_reducible exact tt | (with_reducible refine Below.setCell ?_ ?_ _) | (with_reducible refine Below.alloc ?_ ?_ _) | with_reducible refine Below.drew ?_)); (all_goals (first | omega | (simp <;> omega))))
    clear zt
    replace hA := own_below hb (by repeat (first | exact hA | apply own_alloc))
    obtain ⟨cc_hA, ff_hA⟩ := own_cells hA; have zz_hA := own_lt hA; have zy_hA := Nat.lt_add_right 1 (own_lt hA)
    clear hb
    go_wp2_with fail
    refine (text_none _).mono ?_
    rintro e w' ⟨rfl, hb⟩
    (try clear cc_hA ff_hA); (try clear zz_hA zy_hA)
    have zt := tt.size
    replace tt : Below w.heap.size w w' := by (refine Below.trans ?_ (hb.mono ?_)); (all_goals (repeat (first | with_reducible exact tt | (with_reducible refine Below.setCell ?_ ?_ _) | (with_reducible refine Below.alloc ?_ ?_ _) | with_reducible refine Below.drew ?_)); (all_goals (first | omega | (simp <;> omega))))
    clear zt
    replace hA := own_below hb (by repeat (first | exact hA | apply own_alloc))
    obtain ⟨cc_hA, ff_hA⟩ := own_cells hA; have zz_hA := own_lt hA; have zy_hA := Nat.lt_add_right 1 (own_lt hA)
    clear hb
    go_wp2_with fail
    go_ret
    exact ⟨rfl, tt⟩
end Go.Proofs.YtcgmnpppdoadhaaDoor
