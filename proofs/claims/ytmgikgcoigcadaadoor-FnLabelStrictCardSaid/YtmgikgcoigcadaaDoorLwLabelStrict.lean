/- The walk of the law FnLabelStrict, on a drawn text. No condition. -/
import Derived.Test.YtmgikgcoigcadaaDoorDrawLabRd
import Derived.Test.YtmgikgcoigcadaaDoorLblRd
namespace Go.Proofs.YtmgikgcoigcadaaDoor
set_option maxRecDepth 100000
open Go.RowKit
set_option linter.unusedVariables false

/-- What the two readings come to. -/
theorem labelReads (s : ByteArray) (hs : s.size ≤ 9223372036854775807) :
    ∃ (p q : Int) (k : Bool), (∀ w, Calls Tryd.prog 20 #[.string s] w fun e w' => e = .returned (.tuple #[.agg #[.int .i64 p, .int .i64 q], .bool k]) ∧ Below w.heap.size w w') ∧
      (∀ w, Calls Tryd.prog 22 #[.string s] w fun e w' => e = .returned (.tuple #[.agg #[.int .i64 p, .int .i64 q], .bool k]) ∧ Below w.heap.size w w') ∧
      (k = true → lblOk p q = true ∧ txt (lblTxt p q) = s) := by
  by_cases h3 : s.size = 3
  · obtain ⟨a, b, c, rfl⟩ := three_bytes h3
    refine ⟨_, _, _, labelRead_three a b c, slabelRead_three a b c, fun hk => ?_⟩
    have h := rd_txt a b c
    have h1 : rdS a b c = (a.toNat : Int) - 48 := by simp [rdS, hk]
    have h2 : rdV a b c = (c.toNat : Int) - 48 := by simp [rdV, hk]
    rw [h1, h2]
    rw [hk] at h
    refine ⟨?_, ?_⟩
    · simp [rdOk] at hk
      exact hk.2
    · rw [txt_toList, beq_iff_eq] at h
      rw [h]
      rfl
  · have h : ((s.size : Int) == 3) = false := by simp; omega
    exact ⟨0, 0, false, labelRead_other s hs h, slabelRead_other s hs h, fun h => by cases h⟩
set_option maxHeartbeats 2000000 in
theorem fnLabelStrict_walk (w : World) (a : Option Addr) (len cap : Nat) (z : List Int) (hr : IsRow .u8 w a len cap z) :
    Calls Tryd.prog 7 #[.slice a len cap] w fun e w' => e = .returned (.bool true) ∧ Below w.heap.size w w' := by
  have t0 : Below w.heap.size w w := Below.refl _ _
  by_cases hl : 1048576 < len
  · go_enter Tryd.func7, Tryd.ntmps7
    go_wp2_with fail
    go_ret
    exact ⟨rfl, t0⟩
  go_enter Tryd.func7, Tryd.ntmps7
  go_wp2_with fail
  refine (drawLabelRead_any _ _ _ _ _ hr).mono ?_
  rintro e w1 ⟨s, rfl, hs, tt⟩
  clear hr t0 hl
  obtain ⟨p, q, k, H1, H2, H3⟩ := labelReads s (by omega)
  have H1' := hid H1
  have H2' := hid H2
  clear H1 H2
  cases k
  · clear H3
    go_wp2_with fail
    refine (H2'.out _).mono ?_
    rintro e w' ⟨rfl, hb⟩
    have zt := tt.size
    replace tt : Below w.heap.size w w' := by (refine Below.trans ?_ (hb.mono ?_)); (all_goals (repeat (first | with_reducible exact tt | (with_reducible refine Below.setCell ?_ ?_ _) | (with_reducible refine Below.alloc ?_ ?_ _) | with_reducible refine Below.drew ?_)); (all_goals (first | omega | (simp <;> omega))))
    clear zt
    clear hb
    have hX := own_new w' (.cells #[.int .i64 p, .int .i64 q] 30)
    go_wp2_with fail
    refine (H1'.out _).mono ?_
    rintro e w' ⟨rfl, hb⟩
    (try clear cc_hX ff_hX); (try clear zz_hX zy_hX)
    have zt := tt.size
    replace tt : Below w.heap.size w w' := by (refine Below.trans ?_ (hb.mono ?_)); (all_goals (repeat (first | with_reducible exact tt | (with_reducible refine Below.setCell ?_ ?_ _) | (with_reducible refine Below.alloc ?_ ?_ _) | with_reducible refine Below.drew ?_)); (all_goals (first | omega | (simp <;> omega))))
    clear zt
    replace hX := own_below hb (by repeat (first | exact hX | apply own_alloc))
    obtain ⟨cc_hX, ff_hX⟩ := own_cells hX; have zz_hX := own_lt hX; have zy_hX := Nat.lt_add_right 1 (own_lt hX)
    clear hb
    have hY := own_new w' (.cells #[.int .i64 p, .int .i64 q] 30)
    go_wp2_with fail
    go_ret
    refine ⟨rfl, ?_⟩
    have zt := tt.size
    (repeat (first | with_reducible exact tt | (with_reducible refine Below.setCell ?_ ?_ _) | (with_reducible refine Below.alloc ?_ ?_ _) | (with_reducible refine Below.drew ?_) | with_reducible refine Below.drewN' ?_ _)); (all_goals (first | omega | (simp <;> omega)))
  · obtain ⟨e1, e2⟩ := H3 rfl
    have H4 := labelText_any p q
    rw [e2] at H4
    have H4' := hid H4
    clear H3 H4 e2
    go_wp2_with fail
    refine (H2'.out _).mono ?_
    rintro e w' ⟨rfl, hb⟩
    have zt := tt.size
    replace tt : Below w.heap.size w w' := by (refine Below.trans ?_ (hb.mono ?_)); (all_goals (repeat (first | with_reducible exact tt | (with_reducible refine Below.setCell ?_ ?_ _) | (with_reducible refine Below.alloc ?_ ?_ _) | with_reducible refine Below.drew ?_)); (all_goals (first | omega | (simp <;> omega))))
    clear zt
    clear hb
    have hX := own_new w' (.cells #[.int .i64 p, .int .i64 q] 30)
    go_wp2_with fail
    refine (H1'.out _).mono ?_
    rintro e w' ⟨rfl, hb⟩
    (try clear cc_hX ff_hX); (try clear zz_hX zy_hX)
    have zt := tt.size
    replace tt : Below w.heap.size w w' := by (refine Below.trans ?_ (hb.mono ?_)); (all_goals (repeat (first | with_reducible exact tt | (with_reducible refine Below.setCell ?_ ?_ _) | (with_reducible refine Below.alloc ?_ ?_ _) | with_reducible refine Below.drew ?_)); (all_goals (first | omega | (simp <;> omega))))
    clear zt
    replace hX := own_below hb (by repeat (first | exact hX | apply own_alloc))
    obtain ⟨cc_hX, ff_hX⟩ := own_cells hX; have zz_hX := own_lt hX; have zy_hX := Nat.lt_add_right 1 (own_lt hX)
    clear hb
    have hY := own_new w' (.cells #[.int .i64 p, .int .i64 q] 30)
    go_wp2_with fail
    refine (labelOk_any _ _ _).mono ?_
    rintro e w' ⟨rfl, hb⟩
    (try clear cc_hX ff_hX); (try clear zz_hX zy_hX)
    (try clear cc_hY ff_hY); (try clear zz_hY zy_hY)
    have zt := tt.size
    replace tt : Below w.heap.size w w' := by (refine Below.trans ?_ (hb.mono ?_)); (all_goals (repeat (first | with_reducible exact tt | (with_reducible refine Below.setCell ?_ ?_ _) | (with_reducible refine Below.alloc ?_ ?_ _) | with_reducible refine Below.drew ?_)); (all_goals (first | omega | (simp <;> omega))))
    clear zt
    replace hX := own_below hb (by repeat (first | exact hX | apply own_alloc))
    replace hY := own_below hb (by repeat (first | exact hY | apply own_alloc))
    obtain ⟨cc_hX, ff_hX⟩ := own_cells hX; have zz_hX := own_lt hX; have zy_hX := Nat.lt_add_right 1 (own_lt hX)
    obtain ⟨cc_hY, ff_hY⟩ := own_cells hY; have zz_hY := own_lt hY; have zy_hY := Nat.lt_add_right 1 (own_lt hY)
    clear hb
    go_wp2_with fail
    refine (H4'.out _).mono ?_
    rintro e w' ⟨rfl, hb⟩
    (try clear cc_hX ff_hX); (try clear zz_hX zy_hX)
    (try clear cc_hY ff_hY); (try clear zz_hY zy_hY)
    have zt := tt.size
    replace tt : Below w.heap.size w w' := by (refine Below.trans ?_ (hb.mono ?_)); (all_goals (repeat (first | with_reducible exact tt | (with_reducible refine Below.setCell ?_ ?_ _) | (with_reducible refine Below.alloc ?_ ?_ _) | with_reducible refine Below.drew ?_)); (all_goals (first | omega | (simp <;> omega))))
    clear zt
    replace hX := own_below hb (by repeat (first | exact hX | apply own_alloc))
    replace hY := own_below hb (by repeat (first | exact hY | apply own_alloc))
    obtain ⟨cc_hX, ff_hX⟩ := own_cells hX; have zz_hX := own_lt hX; have zy_hX := Nat.lt_add_right 1 (own_lt hX)
    obtain ⟨cc_hY, ff_hY⟩ := own_cells hY; have zz_hY := own_lt hY; have zy_hY := Nat.lt_add_right 1 (own_lt hY)
    clear hb
    go_wp2_with fail
    go_ret
    exact ⟨rfl, tt⟩
end Go.Proofs.YtmgikgcoigcadaaDoor
