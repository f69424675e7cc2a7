/- The walks of the laws FnExactRightRead, FnRightBack. What they ask is that the package's sentinel lies in its variable. -/
import Derived.Test.YtehnnnopjghbpaaDoorRgtRd2
import Derived.Test.YtehnnnopjghbpaaDoorDrawTxt
import Derived.Test.YtehnnnopjghbpaaDoorTxtPure
namespace Go.Proofs.YtehnnnopjghbpaaDoor
set_option maxRecDepth 100000
open Go.RowKit
set_option linter.unusedVariables false

theorem rgtTxt_len (t v : Int) (r w k : Bool) : (txt (rgtTxt t v r w k)).size ≤ 6 := by
  rw [txt_size]
  unfold rgtTxt
  cases h : rgtOk t v r w k
  · simp
  · obtain ⟨b1, b2, b3, b4⟩ := rgtOk_bd h
    cases e2 : (t == 0)
    · simp only [if_true, Bool.false_eq_true, if_false]
      rw [dec_small t.toNat (by omega), dec_small v.toNat (by omega)]
      simp
    · simp
/-- A text's reading gives the right that it is of. -/
theorem rightRead_text (b0 : Addr) (t v : Int) (r wr k : Bool) (e1 : rgtOk t v r wr k = true) :
    ∀ w, Sent b0 w → Calls Tryd.prog 8 #[.string (txt (rgtTxt t v r wr k))] w fun e w' => e = .returned (.tuple #[.agg #[.int .i64 t, .int .i64 v, .bool r, .bool wr, .bool k], .bool true]) ∧ Below w.heap.size w w' := by
  obtain ⟨b1, b2, b3, b4⟩ := rgtOk_bd e1
  by_cases ht : t = 0
  · obtain ⟨rfl, rfl, rfl, rfl⟩ := rgt_null e1 ht
    subst ht
    exact rightRead_ok b0 _ 0 0 false false false (parseRight_dash b0)
  · obtain ⟨m, rfl⟩ := Int.eq_ofNat_of_zero_le b1
    obtain ⟨n, rfl⟩ := Int.eq_ofNat_of_zero_le b3
    have hm : ((dig m).toNat : Int) - 48 = m := by unfold dig; rw [UInt8.toNat_ofNat']; omega
    have hn : ((dig n).toNat : Int) - 48 = n := by unfold dig; rw [UInt8.toNat_ofNat']; omega
    have f1 : ∀ (x : Bool) (c : UInt8), c ≠ 45 → (flc x c == c) = x ∧ flB (flc x c) c = true := by
      intro x c hc
      cases x
      · simp [flc, flB]
        exact fun h => hc h.symm
      · simp [flc, flB]
    obtain ⟨r1, r2⟩ := f1 r 114 (by decide)
    obtain ⟨w1, w2⟩ := f1 wr 119 (by decide)
    obtain ⟨k1, k2⟩ := f1 k 107 (by decide)
    have hy := parseRight_yes b0 (dig m) 46 (dig n) (flc r 114) (flc wr 119) (flc k 107) rfl r2 w2 k2 (by rw [hm]; simpa using ht) (by rw [hm, hn, r1, w1, k1]; exact e1)
    rw [hm, hn, r1, w1, k1] at hy
    have htx : txt (rgtTxt m n r wr k) = ⟨#[dig m, 46, dig n, flc r 114, flc wr 119, flc k 107]⟩ := by
      unfold rgtTxt
      have e3 : ((m : Int) == 0) = false := by simpa using ht
      rw [e1, e3]
      simp only [if_true, Int.toNat_natCast, Bool.false_eq_true, if_false]
      rw [dec_small m (by omega), dec_small n (by omega)]
      rfl
    rw [htx]
    exact rightRead_ok' b0 _ m n r wr k hy
set_option maxHeartbeats 2000000 in
theorem fnRightBack_walk (w : World) (a : Option Addr) (len cap : Nat) (z : List Int) (hr : IsRow .u8 w a len cap z) (b0 : Addr) (hS : Sent b0 w) :
    Calls Tryd.prog 3 #[.slice a len cap] w fun e w' => e = .returned (.bool true) ∧ Below w.heap.size w w' := by
  have t0 : Below w.heap.size w w := Below.refl _ _
  by_cases hl : 1048576 < len
  · go_enter Tryd.func3, Tryd.ntmps3
    go_wp2_with fail
    go_ret
    exact ⟨rfl, t0⟩
  have HS := hid hS
  clear hS
  go_enter Tryd.func3, Tryd.ntmps3
  go_wp2_with fail
  refine (drawRightText_any _ _ _ _ _ hr).mono ?_
  rintro e w1 ⟨t, v, r, wr, k, rfl, tt⟩
  clear hr t0 hl
  have hA := own_new w1 (.cells #[.int .i64 t, .int .i64 v, .bool r, .bool wr, .bool k] 24)
  have H1 := rightText_any t v r wr k
  have H2 := srightText_any t v r wr k
  have H3 := rightRead_text b0 t v r wr k
  have q1 := @rgtTxt_ne t v r wr k
  rw [← txt_toList (rgtTxt t v r wr k)] at q1
  generalize txt (rgtTxt t v r wr k) = S1 at H1 H2 H3 q1
  have H1' := hid H1
  have H2' := hid H2
  clear H1 H2
  cases e1 : rgtOk t v r wr k
  · rw [e1] at q1
    clear H3 e1
    go_wp2_with fail
    refine (H1'.out _).mono ?_
    rintro e w' ⟨rfl, hb⟩
    (try clear cc_hA ff_hA); (try clear zz_hA zy_hA)
    have zt := tt.size
    replace tt : Below w.heap.size w w' := by (refine Below.trans ?_ (hb.mono ?_)); (all_goals (repeat (first | with_reducible exact tt | (with_reducible refine Below.setCell ?_ ?_ _) | (with_reducible refine Below.alloc ?_ ?_ _) | with_reducible refine Below.drew ?_)); (all_goals (first | omega | (simp <;> omega))))
    clear zt
    replace hA := own_below hb (by repeat (first | exact hA | apply own_alloc))
    obtain ⟨cc_hA, ff_hA⟩ := own_cells hA; have zz_hA := own_lt hA; have zy_hA := Nat.lt_add_right 1 (own_lt hA)
    clear hb
    go_wp2_with fail
    refine (H2'.out _).mono ?_
    rintro e w' ⟨rfl, hb⟩
    (try clear cc_hA ff_hA); (try clear zz_hA zy_hA)
    have zt := tt.size
    replace tt : Below w.heap.size w w' := by (refine Below.trans ?_ (hb.mono ?_)); (all_goals (repeat (first | with_reducible exact tt | (with_reducible refine Below.setCell ?_ ?_ _) | (with_reducible refine Below.alloc ?_ ?_ _) | with_reducible refine Below.drew ?_)); (all_goals (first | omega | (simp <;> omega))))
    clear zt
    replace hA := own_below hb (by repeat (first | exact hA | apply own_alloc))
    obtain ⟨cc_hA, ff_hA⟩ := own_cells hA; have zz_hA := own_lt hA; have zy_hA := Nat.lt_add_right 1 (own_lt hA)
    clear hb
    go_wp2_with fail
    refine (H2'.out _).mono ?_
    rintro e w' ⟨rfl, hb⟩
    (try clear cc_hA ff_hA); (try clear zz_hA zy_hA)
    have zt := tt.size
    replace tt : Below w.heap.size w w' := by (refine Below.trans ?_ (hb.mono ?_)); (all_goals (repeat (first | with_reducible exact tt | (with_reducible refine Below.setCell ?_ ?_ _) | (with_reducible refine Below.alloc ?_ ?_ _) | with_reducible refine Below.drew ?_)); (all_goals (first | omega | (simp <;> omega))))
    clear zt
    replace hA := own_below hb (by repeat (first | exact hA | apply own_alloc))
    obtain ⟨cc_hA, ff_hA⟩ := own_cells hA; have zz_hA := own_lt hA; have zy_hA := Nat.lt_add_right 1 (own_lt hA)
    clear hb
    go_wp2_with fail
    go_ret
    exact ⟨rfl, tt⟩
  · rw [e1] at q1
    have H3' := hid (H3 e1)
    clear H3
    go_wp2_with fail
    refine (H1'.out _).mono ?_
    rintro e w' ⟨rfl, hb⟩
    (try clear cc_hA ff_hA); (try clear zz_hA zy_hA)
    have zt := tt.size
    replace tt : Below w.heap.size w w' := by (refine Below.trans ?_ (hb.mono ?_)); (all_goals (repeat (first | with_reducible exact tt | (with_reducible refine Below.setCell ?_ ?_ _) | (with_reducible refine Below.alloc ?_ ?_ _) | with_reducible refine Below.drew ?_)); (all_goals (first | omega | (simp <;> omega))))
    clear zt
    replace hA := own_below hb (by repeat (first | exact hA | apply own_alloc))
    obtain ⟨cc_hA, ff_hA⟩ := own_cells hA; have zz_hA := own_lt hA; have zy_hA := Nat.lt_add_right 1 (own_lt hA)
    clear hb
    go_wp2_with fail
    refine (H2'.out _).mono ?_
    rintro e w' ⟨rfl, hb⟩
    (try clear cc_hA ff_hA); (try clear zz_hA zy_hA)
    have zt := tt.size
    replace tt : Below w.heap.size w w' := by (refine Below.trans ?_ (hb.mono ?_)); (all_goals (repeat (first | with_reducible exact tt | (with_reducible refine Below.setCell ?_ ?_ _) | (with_reducible refine Below.alloc ?_ ?_ _) | with_reducible refine Below.drew ?_)); (all_goals (first | omega | (simp <;> omega))))
    clear zt
    replace hA := own_below hb (by repeat (first | exact hA | apply own_alloc))
    obtain ⟨cc_hA, ff_hA⟩ := own_cells hA; have zz_hA := own_lt hA; have zy_hA := Nat.lt_add_right 1 (own_lt hA)
    clear hb
    have HS1 : Sent b0 w' := HS.out.below tt
    have HS1' := hid HS1
    clear HS1
    go_wp2_with fail
    refine (H3'.out _ HS1'.out).mono ?_
    rintro e w' ⟨rfl, hb⟩
    (try clear cc_hA ff_hA); (try clear zz_hA zy_hA)
    have zt := tt.size
    replace tt : Below w.heap.size w w' := by (refine Below.trans ?_ (hb.mono ?_)); (all_goals (repeat (first | with_reducible exact tt | (with_reducible refine Below.setCell ?_ ?_ _) | (with_reducible refine Below.alloc ?_ ?_ _) | with_reducible refine Below.drew ?_)); (all_goals (first | omega | (simp <;> omega))))
    clear zt
    replace hA := own_below hb (by repeat (first | exact hA | apply own_alloc))
    obtain ⟨cc_hA, ff_hA⟩ := own_cells hA; have zz_hA := own_lt hA; have zy_hA := Nat.lt_add_right 1 (own_lt hA)
    clear hb
    have hX := own_new w' (.cells #[.int .i64 t, .int .i64 v, .bool r, .bool wr, .bool k] 24)
    go_wp2_with fail
    refine (rightOk_any _ _ _ _ _ _).mono ?_
    rintro e w' ⟨rfl, hb⟩
    (try clear cc_hA ff_hA); (try clear zz_hA zy_hA)
    (try clear cc_hX ff_hX); (try clear zz_hX zy_hX)
    have zt := tt.size
    replace tt : Below w.heap.size w w' := by (refine Below.trans ?_ (hb.mono ?_)); (all_goals (repeat (first | with_reducible exact tt | (with_reducible refine Below.setCell ?_ ?_ _) | (with_reducible refine Below.alloc ?_ ?_ _) | with_reducible refine Below.drew ?_)); (all_goals (first | omega | (simp <;> omega))))
    clear zt
    replace hA := own_below hb (by repeat (first | exact hA | apply own_alloc))
    replace hX := own_below hb (by repeat (first | exact hX | apply own_alloc))
    obtain ⟨cc_hA, ff_hA⟩ := own_cells hA; have zz_hA := own_lt hA; have zy_hA := Nat.lt_add_right 1 (own_lt hA)
    obtain ⟨cc_hX, ff_hX⟩ := own_cells hX; have zz_hX := own_lt hX; have zy_hX := Nat.lt_add_right 1 (own_lt hX)
    clear hb
    go_wp2_with fail
    go_ret
    exact ⟨rfl, tt⟩
end Go.Proofs.YtehnnnopjghbpaaDoor
