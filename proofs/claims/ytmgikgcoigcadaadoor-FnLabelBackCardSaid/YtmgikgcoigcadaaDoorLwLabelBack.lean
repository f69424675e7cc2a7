/- The walk of the law FnLabelBack, on a drawn label. No condition. -/
import Derived.Test.YtmgikgcoigcadaaDoorLwLabelForm
namespace Go.Proofs.YtmgikgcoigcadaaDoor
set_option maxRecDepth 100000
open Go.RowKit
set_option linter.unusedVariables false

theorem labelRead_text (s v : Int) (e1 : lblOk s v = true) (w : World) :
    Calls Tryd.prog 20 #[.string (txt (lblTxt s v))] w fun e w' => e = .returned (.tuple #[.agg #[.int .i64 s, .int .i64 v], .bool true]) ∧ Below w.heap.size w w' := by
  obtain ⟨b1, b2, b3, b4⟩ := lblOk_bd e1
  obtain ⟨m, rfl⟩ := Int.eq_ofNat_of_zero_le b1
  obtain ⟨n, rfl⟩ := Int.eq_ofNat_of_zero_le b3
  have hm : ((dig m).toNat : Int) - 48 = m := by unfold dig; rw [UInt8.toNat_ofNat']; omega
  have hn : ((dig n).toNat : Int) - 48 = n := by unfold dig; rw [UInt8.toNat_ofNat']; omega
  have hk : rdOk (dig m) 47 (dig n) = true := by simp [rdOk, hm, hn, e1]
  have h := labelRead_three (dig m) 47 (dig n) w
  have h1 : rdS (dig m) 47 (dig n) = m := by simp [rdS, hk, hm]
  have h2 : rdV (dig m) 47 (dig n) = n := by simp [rdV, hk, hn]
  rw [h1, h2, hk] at h
  have ht : txt (lblTxt m n) = ⟨#[dig m, 47, dig n]⟩ := by
    unfold lblTxt
    rw [e1]
    simp only [if_true, Int.toNat_natCast]
    rw [dec_small m (by omega), dec_small n (by omega)]
    rfl
  rw [ht]
  exact h
theorem lblTxt_len (s v : Int) (e1 : lblOk s v = true) : (txt (lblTxt s v)).size = 3 := by
  obtain ⟨b1, b2, b3, b4⟩ := lblOk_bd e1
  unfold lblTxt
  rw [txt_size, e1]
  simp only [if_true]
  rw [dec_small s.toNat (by omega), dec_small v.toNat (by omega)]
  rfl
set_option maxHeartbeats 2000000 in
theorem fnLabelBack_walk (w : World) (a : Option Addr) (len cap : Nat) (z : List Int) (hr : IsRow .u8 w a len cap z) :
    Calls Tryd.prog 6 #[.slice a len cap] w fun e w' => e = .returned (.bool true) ∧ Below w.heap.size w w' := by
  have t0 : Below w.heap.size w w := Below.refl _ _
  by_cases hl : 1048576 < len
  · go_enter Tryd.func6, Tryd.ntmps6
    go_wp2_with fail
    go_ret
    exact ⟨rfl, t0⟩
  go_enter Tryd.func6, Tryd.ntmps6
  go_wp2_with fail
  refine (drawLabelText_any _ _ _ _ _ hr).mono ?_
  rintro e w1 ⟨s, v, rfl, tt⟩
  clear hr t0 hl
  have hA := own_new w1 (.cells #[.int .i64 s, .int .i64 v] 30)
  have H1 := labelText_any s v
  have H2 := slabelText_any s v
  have H3 := labelRead_text s v
  have q1 := @lblTxt_ne s v
  have q2 := lblTxt_len s v
  generalize txt (lblTxt s v) = S1 at H1 H2 H3 q1 q2
  have H1' := hid H1
  have H2' := hid H2
  clear H1 H2
  cases e1 : lblOk s v
  · rw [e1] at q1
    clear q2 H3 e1
    go_wp2_with fail
    refine (H1'.out _).mono ?_
    rintro e w' ⟨rfl, hb⟩
    (try clear cc_hA ff_hA); (try clear zz_hA zy_hA)
    have zt := tt.size
    replace tt : Below w.heap.size w w' := by (refine Below.trans ?_ (hb.mono ?_)); (all_goals (repeat (first | with_reducible exact tt | (with_reducible refine Below.setCell ?_ ?_ _) | (with_reducible refine Below.alloc ?_ ?_ _) | with_reducible refine Below.drew ?_)); (all_goals (first | omega | (simp <;> omega))))
    clear zt
    replace hA := own_below hb (by repeat (first | exact hA | apply own_alloc))
    obtain ⟨cc_hA, ff_hA⟩ := own_cells hA; have zz_hA := own_lt hA; have zy_hA := Nat.lt_add_right 1 (own_lt hA)
    clear hb
    go_wp2_with fail
    refine (H2'.out _).mono ?_
    rintro e w' ⟨rfl, hb⟩
    (try clear cc_hA ff_hA); (try clear zz_hA zy_hA)
    have zt := tt.size
    replace tt : Below w.heap.size w w' := by (refine Below.trans ?_ (hb.mono ?_)); (all_goals (repeat (first | with_reducible exact tt | (with_reducible refine Below.setCell ?_ ?_ _) | (with_reducible refine Below.alloc ?_ ?_ _) | with_reducible refine Below.drew ?_)); (all_goals (first | omega | (simp <;> omega))))
    clear zt
    replace hA := own_below hb (by repeat (first | exact hA | apply own_alloc))
    obtain ⟨cc_hA, ff_hA⟩ := own_cells hA; have zz_hA := own_lt hA; have zy_hA := Nat.lt_add_right 1 (own_lt hA)
    clear hb
    go_wp2_with fail
    refine (H2'.out _).mono ?_
    rintro e w' ⟨rfl, hb⟩
    (try clear cc_hA ff_hA); (try clear zz_hA zy_hA)
    have zt := tt.size
    replace tt : Below w.heap.size w w' := by (refine Below.trans ?_ (hb.mono ?_)); (all_goals (repeat (first | with_reducible exact tt | (with_reducible refine Below.setCell ?_ ?_ _) | (with_reducible refine Below.alloc ?_ ?_ _) | with_reducible refine Below.drew ?_)); (all_goals (first | omega | (simp <;> omega))))
    clear zt
    replace hA := own_below hb (by repeat (first | exact hA | apply own_alloc))
    obtain ⟨cc_hA, ff_hA⟩ := own_cells hA; have zz_hA := own_lt hA; have zy_hA := Nat.lt_add_right 1 (own_lt hA)
    clear hb
    go_wp2_with fail
    go_ret
    exact ⟨rfl, tt⟩
  · rw [e1] at q1
    replace q2 := q2 e1
    have H3' := hid (H3 e1)
    clear H3
    go_wp2_with fail
    refine (H1'.out _).mono ?_
    rintro e w' ⟨rfl, hb⟩
    (try clear cc_hA ff_hA); (try clear zz_hA zy_hA)
    have zt := tt.size
    replace tt : Below w.heap.size w w' := by (refine Below.trans ?_ (hb.mono ?_)); (all_goals (repeat (first | with_reducible exact tt | (with_reducible refine Below.setCell ?_ ?_ _) | (with_reducible refine Below.alloc ?_ ?_ _) | with_reducible refine Below.drew ?_)); (all_goals (first | omega | (simp <;> omega))))
    clear zt
    replace hA := own_below hb (by repeat (first | exact hA | apply own_alloc))
    obtain ⟨cc_hA, ff_hA⟩ := own_cells hA; have zz_hA := own_lt hA; have zy_hA := Nat.lt_add_right 1 (own_lt hA)
    clear hb
    go_wp2_with fail
    refine (H2'.out _).mono ?_
    rintro e w' ⟨rfl, hb⟩
    (try clear cc_hA ff_hA); (try clear zz_hA zy_hA)
    have zt := tt.size
    replace tt : Below w.heap.size w w' := by (refine Below.trans ?_ (hb.mono ?_)); (all_goals (repeat (first | with_reducible exact tt | (with_reducible refine Below.setCell ?_ ?_ _) | (with_reducible refine Below.alloc ?_ ?_ _) | with_reducible refine Below.drew ?_)); (all_goals (first | omega | (simp <;> omega))))
    clear zt
    replace hA := own_below hb (by repeat (first | exact hA | apply own_alloc))
    obtain ⟨cc_hA, ff_hA⟩ := own_cells hA; have zz_hA := own_lt hA; have zy_hA := Nat.lt_add_right 1 (own_lt hA)
    clear hb
    go_wp2_with fail
    refine (H3'.out _).mono ?_
    rintro e w' ⟨rfl, hb⟩
    (try clear cc_hA ff_hA); (try clear zz_hA zy_hA)
    have zt := tt.size
    replace tt : Below w.heap.size w w' := by (refine Below.trans ?_ (hb.mono ?_)); (all_goals (repeat (first | with_reducible exact tt | (with_reducible refine Below.setCell ?_ ?_ _) | (with_reducible refine Below.alloc ?_ ?_ _) | with_reducible refine Below.drew ?_)); (all_goals (first | omega | (simp <;> omega))))
    clear zt
    replace hA := own_below hb (by repeat (first | exact hA | apply own_alloc))
    obtain ⟨cc_hA, ff_hA⟩ := own_cells hA; have zz_hA := own_lt hA; have zy_hA := Nat.lt_add_right 1 (own_lt hA)
    clear hb
    have hX := own_new w' (.cells #[.int .i64 s, .int .i64 v] 30)
    go_wp2_with fail
    refine (labelOk_any _ _ _).mono ?_
    rintro e w' ⟨rfl, hb⟩
    (try clear cc_hA ff_hA); (try clear zz_hA zy_hA)
    (try clear cc_hX ff_hX); (try clear zz_hX zy_hX)
    have zt := tt.size
    replace tt : Below w.heap.size w w' := by (refine Below.trans ?_ (hb.mono ?_)); (all_goals (repeat (first | with_reducible exact tt | (with_reducible refine Below.setCell ?_ ?_ _) | (with_reducible refine Below.alloc ?_ ?_ _) | with_reducible refine Below.drew ?_)); (all_goals (first | omega | (simp <;> omega))))
    clear zt
    replace hA := own_below hb (by repeat (first | exact hA | apply own_alloc))
    replace hX := own_below hb (by repeat (first | exact hX | apply own_alloc))
    obtain ⟨cc_hA, ff_hA⟩ := own_cells hA; have zz_hA := own_lt hA; have zy_hA := Nat.lt_add_right 1 (own_lt hA)
    obtain ⟨cc_hX, ff_hX⟩ := own_cells hX; have zz_hX := own_lt hX; have zy_hX := Nat.lt_add_right 1 (own_lt hX)
    clear hb
    go_wp2_with fail
    go_ret
    exact ⟨rfl, tt⟩
end Go.Proofs.YtmgikgcoigcadaaDoor
