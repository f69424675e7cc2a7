/- The walk of the law FnLess, on drawn rights. No condition. -/
import Derived.Test.YtccghhfiidodnaaDrawRgt2
import Derived.Test.YtccghhfiidodnaaRgtPure
namespace Go.Proofs.Ytccghhfiidodnaa
open Go.RowKit
set_option linter.unusedVariables false

theorem IsRow.len_le' {k : IntKind} {w : World} {a : Option Addr} {len cap : Nat} {z : List Int} (h : IsRow k w a len cap z) : len ≤ 9223372036854775807 := by
  rcases h with ⟨_, rfl, _, _⟩ | ⟨_, _, h1, h2, _⟩
  · omega
  · unfold maxLen at h2; omega
set_option maxHeartbeats 4000000 in
theorem fnLess_walk (w : World) (a : Option Addr) (len cap : Nat) (z : List Int) (hr : IsRow .u8 w a len cap z) :
    Calls Try.prog 8 #[.slice a len cap] w fun e w' => e = .returned (.bool true) ∧ Below w.heap.size w w' := by
  have t0 : Below w.heap.size w w := Below.refl _ _
  by_cases hl : 1048576 < len
  · go_enter Try.func8, Try.ntmps8
    go_wp2_with fail
    go_ret
    exact ⟨rfl, t0⟩
  go_enter Try.func8, Try.ntmps8
  go_wp2_with fail
  refine (drawRightLess_any _ _ _ _ _ hr).mono ?_
  rintro e w1 ⟨ta, va, ra, wa, ka, rd, wt, st, rfl, tt⟩
  clear hr t0 hl
  have hA := own_new w1 (.cells #[.int .i64 ta, .int .i64 va, .bool ra, .bool wa, .bool ka] 25)
  cases e1 : rgtOk ta va ra wa ka
  · have z1 : lessT ta va ra wa ka = 0 := by simp [lessT, e1]
    have z2 : lessV ta va ra wa ka = 0 := by simp [lessV, e1]
    have z3 : lessR ta va ra wa ka rd = false := by simp [lessR, e1]
    have z4 : lessW ta va ra wa ka wt st = false := by simp [lessW, e1]
    have z5 : lessK ta va ra wa ka st = false := by simp [lessK, e1]
    have H1 := rightLess_any ta va ra wa ka rd wt st
    have H2 := srightLess_any ta va ra wa ka rd wt st
    rw [z1, z2, z3, z4, z5] at H1 H2
    clear z1 z2 z3 z4 z5
    have H1' := hid H1
    have H2' := hid H2
    clear H1 H2
    go_wp2_with fail
    refine (H1'.out _).mono ?_
    rintro e w' ⟨rfl, hb⟩
    (try clear cc_hA ff_hA); (try clear zz_hA zy_hA)
    have zt := tt.size
    replace tt : Below w.heap.size w w' := by (refine Below.trans ?_ (hb.mono ?_)); (all_goals (repeat (first | with_reducible exact tt | (with_reducible refine Below.setCell ?_ ?_ _) | (with_reducible refine Below.alloc ?_ ?_ _) | with_reducible refine Below.drew ?_)); (all_goals (first | omega | (simp <;> omega))))
    clear zt
    replace hA := own_below hb (by repeat (first | exact hA | apply own_alloc))
    obtain ⟨cc_hA, ff_hA⟩ := own_cells hA; have zz_hA := own_lt hA; have zy_hA := Nat.lt_add_right 1 (own_lt hA)
    clear hb
    have hX := own_new w' (.cells #[.int .i64 0, .int .i64 0, .bool false, .bool false, .bool false] 25)
    go_wp2_with fail
    refine named (p := fun W => Code.wp _ _ _ _ W) _ ?_
    intro W hW
    (try clear cc_hA ff_hA); (try clear zz_hA zy_hA)
    (try clear cc_hX ff_hX); (try clear zz_hX zy_hX)
    have zt := tt.size
    replace tt : Below w.heap.size w W := by
      rw [← hW]
      (repeat (first | with_reducible exact tt | (with_reducible refine Below.setCell ?_ ?_ _) | (with_reducible refine Below.alloc ?_ ?_ _) | with_reducible refine Below.drew ?_)); (all_goals (first | omega | (simp <;> omega)))
    replace hA := own_eq hW (by repeat (first | exact hA | apply own_alloc))
    replace hX := own_eq hW (by repeat (first | exact hX | apply own_alloc))
    clear hW zt
    refine wp_region_quiet_below (by kernel_rfl) (by kernel_rfl) ?_
    repeat (first
      | (refine qskip rfl (fun K hK => ?_); go_simp; refine hK _ ?_; clear hK K)
      | (apply qval rfl; (case h => (intro u hu; obtain ⟨_, _⟩ := own_cells (own_below hu hA); obtain ⟨_, _⟩ := own_cells (own_below hu hX); go_simp; exact rfl)); (intro K hK; go_simp; refine hK _ ?_; clear hK K))
      | (apply qcall rfl; (case h => (intro u hu; go_simp; exact ⟨rfl, rfl⟩)); (case hc => (intro u hu; with_reducible exact Calls.in_below hu (H2'.out _))); (intro K hK; go_simp; refine hK _ ?_; clear hK K))
      | (apply qcall rfl; (case h => (intro u hu; go_simp; exact ⟨rfl, rfl⟩)); (case hc => (intro u hu; with_reducible exact Calls.in_below hu (srightOk_any _ _ _ _ _ _))); (intro K hK; go_simp; refine hK _ ?_; clear hK K)))
    refine wpQuiet_nil ?_
    intro w' hu
    replace tt := tt.trans (hu.mono tt.size)
    replace hA := own_below hu hA
    replace hX := own_below hu hX
    obtain ⟨cc_hA, ff_hA⟩ := own_cells hA; have zz_hA := own_lt hA; have zy_hA := Nat.lt_add_right 1 (own_lt hA)
    obtain ⟨cc_hX, ff_hX⟩ := own_cells hX; have zz_hX := own_lt hX; have zy_hX := Nat.lt_add_right 1 (own_lt hX)
    clear hu
    go_wp2_with fail
    refine named (p := fun W => Code.wp _ _ _ _ W) _ ?_
    intro W hW
    (try clear cc_hA ff_hA); (try clear zz_hA zy_hA)
    (try clear cc_hX ff_hX); (try clear zz_hX zy_hX)
    have zt := tt.size
    replace tt : Below w.heap.size w W := by
      rw [← hW]
      (repeat (first | with_reducible exact tt | (with_reducible refine Below.setCell ?_ ?_ _) | (with_reducible refine Below.alloc ?_ ?_ _) | with_reducible refine Below.drew ?_)); (all_goals (first | omega | (simp <;> omega)))
    replace hA := own_eq hW (by repeat (first | exact hA | apply own_alloc))
    replace hX := own_eq hW (by repeat (first | exact hX | apply own_alloc))
    clear hW zt
    refine wp_region_quiet_below (by kernel_rfl) (by kernel_rfl) ?_
    repeat (first
      | (refine qskip rfl (fun K hK => ?_); go_simp; refine hK _ ?_; clear hK K)
      | (apply qval rfl; (case h => (intro u hu; obtain ⟨_, _⟩ := own_cells (own_below hu hA); obtain ⟨_, _⟩ := own_cells (own_below hu hX); go_simp; exact rfl)); (intro K hK; go_simp; refine hK _ ?_; clear hK K))
      | (apply qcall rfl; (case h => (intro u hu; go_simp; exact ⟨rfl, rfl⟩)); (case hc => (intro u hu; with_reducible exact Calls.in_below hu (H2'.out _))); (intro K hK; go_simp; refine hK _ ?_; clear hK K)))
    refine wpQuiet_nil ?_
    intro w' hu
    replace tt := tt.trans (hu.mono tt.size)
    replace hA := own_below hu hA
    replace hX := own_below hu hX
    obtain ⟨cc_hA, ff_hA⟩ := own_cells hA; have zz_hA := own_lt hA; have zy_hA := Nat.lt_add_right 1 (own_lt hA)
    obtain ⟨cc_hX, ff_hX⟩ := own_cells hX; have zz_hX := own_lt hX; have zy_hX := Nat.lt_add_right 1 (own_lt hX)
    clear hu
    go_wp2_with fail
    go_ret
    exact ⟨rfl, tt⟩
  have r1 := less_in e1 rd wt st
  have r2 := less_all e1
  have r3 := less_again e1 rd wt st
  have ok1 := less_ok e1 rd wt st
  have n3 : rd = true ∨ lessR ta va ra wa ka rd = false := by cases rd <;> simp [lessR]
  have n4 : (wt && st) = true ∨ lessW ta va ra wa ka wt st = false := by cases wt <;> cases st <;> simp [lessW]
  have n5 : st = true ∨ (ta == 0) = true ∨ lessK ta va ra wa ka st = true := by
    cases h : (ta == 0)
    · have h' : ¬ ta = 0 := by simpa using h
      cases st <;> simp [lessK, e1, h']
    · simp
  have H6 := rightLess_any ta va ra wa ka true true true
  rw [lessT_eq e1, lessV_eq e1, r2.1, r2.2.1, r2.2.2] at H6
  have H7 := rightLess_any ta va (lessR ta va ra wa ka rd) (lessW ta va ra wa ka wt st) (lessK ta va ra wa ka st) rd wt st
  rw [lessT_eq ok1, lessV_eq ok1, r3.1, r3.2.1, r3.2.2] at H7
  clear r2 r3
  have H1 := rightLess_any ta va ra wa ka rd wt st
  have H2 := srightLess_any ta va ra wa ka rd wt st
  rw [lessT_eq e1, lessV_eq e1] at H1 H2
  generalize lessR ta va ra wa ka rd = x3 at H1 H2 r1 H7 ok1 n3 n4 n5
  generalize lessW ta va ra wa ka wt st = x4 at H1 H2 r1 H7 ok1 n3 n4 n5
  generalize lessK ta va ra wa ka st = x5 at H1 H2 r1 H7 ok1 n3 n4 n5
  have H1' := hid H1
  have H2' := hid H2
  clear H1 H2
  have H6' := hid H6
  have H7' := hid H7
  clear H6 H7
  cases rd
  · obtain rfl : x3 = false := by simpa using n3
    cases st
    · obtain rfl : x4 = false := by simpa using n4
      have n6 : (ta == 0) = true ∨ x5 = true := by simpa using n5
      clear n3 n4 n5
      cases h0 : (ta == 0)
      · obtain rfl : x5 = true := by simpa [h0] using n6
        clear n6
        cases wt
        · go_wp2_with fail
          refine (H1'.out _).mono ?_
          rintro e w' ⟨rfl, hb⟩
          (try clear cc_hA ff_hA); (try clear zz_hA zy_hA)
          have zt := tt.size
          replace tt : Below w.heap.size w w' := by (refine Below.trans ?_ (hb.mono ?_)); (all_goals (repeat (first | with_reducible exact tt | (with_reducible refine Below.setCell ?_ ?_ _) | (with_reducible refine Below.alloc ?_ ?_ _) | with_reducible refine Below.drew ?_)); (all_goals (first | omega | (simp <;> omega))))
          clear zt
          replace hA := own_below hb (by repeat (first | exact hA | apply own_alloc))
          obtain ⟨cc_hA, ff_hA⟩ := own_cells hA; have zz_hA := own_lt hA; have zy_hA := Nat.lt_add_right 1 (own_lt hA)
          clear hb
          have hX := own_new w' (.cells #[.int .i64 ta, .int .i64 va, .bool false, .bool false, .bool true] 25)
          go_wp2_with fail
          refine named (p := fun W => Code.wp _ _ _ _ W) _ ?_
          intro W hW
          (try clear cc_hA ff_hA); (try clear zz_hA zy_hA)
          (try clear cc_hX ff_hX); (try clear zz_hX zy_hX)
          have zt := tt.size
          replace tt : Below w.heap.size w W := by
            rw [← hW]
            (repeat (first | with_reducible exact tt | (with_reducible refine Below.setCell ?_ ?_ _) | (with_reducible refine Below.alloc ?_ ?_ _) | with_reducible refine Below.drew ?_)); (all_goals (first | omega | (simp <;> omega)))
          replace hA := own_eq hW (by repeat (first | exact hA | apply own_alloc))
          replace hX := own_eq hW (by repeat (first | exact hX | apply own_alloc))
          clear hW zt
          refine wp_region_quiet_below (by kernel_rfl) (by kernel_rfl) ?_
          repeat (first
            | (refine qskip rfl (fun K hK => ?_); go_simp; refine hK _ ?_; clear hK K)
            | (apply qval rfl; (case h => (intro u hu; obtain ⟨_, _⟩ := own_cells (own_below hu hA); obtain ⟨_, _⟩ := own_cells (own_below hu hX); go_simp; exact rfl)); (intro K hK; go_simp; refine hK _ ?_; clear hK K))
            | (apply qcall rfl; (case h => (intro u hu; go_simp; exact ⟨rfl, rfl⟩)); (case hc => (intro u hu; with_reducible exact Calls.in_below hu (H2'.out _))); (intro K hK; go_simp; refine hK _ ?_; clear hK K))
            | (apply qcall rfl; (case h => (intro u hu; go_simp; exact ⟨rfl, rfl⟩)); (case hc => (intro u hu; with_reducible exact Calls.in_below hu (srightOk_any _ _ _ _ _ _))); (intro K hK; go_simp; refine hK _ ?_; clear hK K)))
          refine wpQuiet_nil ?_
          intro w' hu
          replace tt := tt.trans (hu.mono tt.size)
          replace hA := own_below hu hA
          replace hX := own_below hu hX
          obtain ⟨cc_hA, ff_hA⟩ := own_cells hA; have zz_hA := own_lt hA; have zy_hA := Nat.lt_add_right 1 (own_lt hA)
          obtain ⟨cc_hX, ff_hX⟩ := own_cells hX; have zz_hX := own_lt hX; have zy_hX := Nat.lt_add_right 1 (own_lt hX)
          clear hu
          go_wp2_with fail
          refine named (p := fun W => Code.wp _ _ _ _ W) _ ?_
          intro W hW
          (try clear cc_hA ff_hA); (try clear zz_hA zy_hA)
          (try clear cc_hX ff_hX); (try clear zz_hX zy_hX)
          have zt := tt.size
          replace tt : Below w.heap.size w W := by
            rw [← hW]
            (repeat (first | with_reducible exact tt | (with_reducible refine Below.setCell ?_ ?_ _) | (with_reducible refine Below.alloc ?_ ?_ _) | with_reducible refine Below.drew ?_)); (all_goals (first | omega | (simp <;> omega)))
          replace hA := own_eq hW (by repeat (first | exact hA | apply own_alloc))
          replace hX := own_eq hW (by repeat (first | exact hX | apply own_alloc))
          clear hW zt
          refine wp_region_quiet_below (by kernel_rfl) (by kernel_rfl) ?_
          repeat (first
            | (refine qskip rfl (fun K hK => ?_); go_simp; refine hK _ ?_; clear hK K)
            | (apply qval rfl; (case h => (intro u hu; obtain ⟨_, _⟩ := own_cells (own_below hu hA); obtain ⟨_, _⟩ := own_cells (own_below hu hX); go_simp; exact rfl)); (intro K hK; go_simp; refine hK _ ?_; clear hK K))
            | (apply qcall rfl; (case h => (intro u hu; go_simp; exact ⟨rfl, rfl⟩)); (case hc => (intro u hu; with_reducible exact Calls.in_below hu (H6'.out _))); (intro K hK; go_simp; refine hK _ ?_; clear hK K))
            | (apply qcall rfl; (case h => (intro u hu; go_simp; exact ⟨rfl, rfl⟩)); (case hc => (intro u hu; with_reducible exact Calls.in_below hu (H7'.out _))); (intro K hK; go_simp; refine hK _ ?_; clear hK K))
            | (apply qcall rfl; (case h => (intro u hu; go_simp; exact ⟨rfl, rfl⟩)); (case hc => (intro u hu; with_reducible exact Calls.in_below hu (rightIn_any _ _ _ _ _ _ _ _ _ _ _))); (intro K hK; go_simp; refine hK _ ?_; clear hK K))
            | (apply qcall rfl; (case h => (intro u hu; go_simp; exact ⟨rfl, rfl⟩)); (case hc => (intro u hu; with_reducible exact Calls.in_below hu (rightOk_any _ _ _ _ _ _))); (intro K hK; go_simp; refine hK _ ?_; clear hK K)))
          refine wpQuiet_nil ?_
          intro w' hu
          replace tt := tt.trans (hu.mono tt.size)
          replace hA := own_below hu hA
          replace hX := own_below hu hX
          obtain ⟨cc_hA, ff_hA⟩ := own_cells hA; have zz_hA := own_lt hA; have zy_hA := Nat.lt_add_right 1 (own_lt hA)
          obtain ⟨cc_hX, ff_hX⟩ := own_cells hX; have zz_hX := own_lt hX; have zy_hX := Nat.lt_add_right 1 (own_lt hX)
          clear hu
          go_wp2_with fail
          go_ret
          exact ⟨rfl, tt⟩
        · go_wp2_with fail
          refine (H1'.out _).mono ?_
          rintro e w' ⟨rfl, hb⟩
          (try clear cc_hA ff_hA); (try clear zz_hA zy_hA)
          have zt := tt.size
          replace tt : Below w.heap.size w w' := by (refine Below.trans ?_ (hb.mono ?_)); (all_goals (repeat (first | with_reducible exact tt | (with_reducible refine Below.setCell ?_ ?_ _) | (with_reducible refine Below.alloc ?_ ?_ _) | with_reducible refine Below.drew ?_)); (all_goals (first | omega | (simp <;> omega))))
          clear zt
          replace hA := own_below hb (by repeat (first | exact hA | apply own_alloc))
          obtain ⟨cc_hA, ff_hA⟩ := own_cells hA; have zz_hA := own_lt hA; have zy_hA := Nat.lt_add_right 1 (own_lt hA)
          clear hb
          have hX := own_new w' (.cells #[.int .i64 ta, .int .i64 va, .bool false, .bool false, .bool true] 25)
          go_wp2_with fail
          refine named (p := fun W => Code.wp _ _ _ _ W) _ ?_
          intro W hW
          (try clear cc_hA ff_hA); (try clear zz_hA zy_hA)
          (try clear cc_hX ff_hX); (try clear zz_hX zy_hX)
          have zt := tt.size
          replace tt : Below w.heap.size w W := by
            rw [← hW]
            (repeat (first | with_reducible exact tt | (with_reducible refine Below.setCell ?_ ?_ _) | (with_reducible refine Below.alloc ?_ ?_ _) | with_reducible refine Below.drew ?_)); (all_goals (first | omega | (simp <;> omega)))
          replace hA := own_eq hW (by repeat (first | exact hA | apply own_alloc))
          replace hX := own_eq hW (by repeat (first | exact hX | apply own_alloc))
          clear hW zt
          refine wp_region_quiet_below (by kernel_rfl) (by kernel_rfl) ?_
          repeat (first
            | (refine qskip rfl (fun K hK => ?_); go_simp; refine hK _ ?_; clear hK K)
            | (apply qval rfl; (case h => (intro u hu; obtain ⟨_, _⟩ := own_cells (own_below hu hA); obtain ⟨_, _⟩ := own_cells (own_below hu hX); go_simp; exact rfl)); (intro K hK; go_simp; refine hK _ ?_; clear hK K))
            | (apply qcall rfl; (case h => (intro u hu; go_simp; exact ⟨rfl, rfl⟩)); (case hc => (intro u hu; with_reducible exact Calls.in_below hu (H2'.out _))); (intro K hK; go_simp; refine hK _ ?_; clear hK K))
            | (apply qcall rfl; (case h => (intro u hu; go_simp; exact ⟨rfl, rfl⟩)); (case hc => (intro u hu; with_reducible exact Calls.in_below hu (srightOk_any _ _ _ _ _ _))); (intro K hK; go_simp; refine hK _ ?_; clear hK K)))
          refine wpQuiet_nil ?_
          intro w' hu
          replace tt := tt.trans (hu.mono tt.size)
          replace hA := own_below hu hA
          replace hX := own_below hu hX
          obtain ⟨cc_hA, ff_hA⟩ := own_cells hA; have zz_hA := own_lt hA; have zy_hA := Nat.lt_add_right 1 (own_lt hA)
          obtain ⟨cc_hX, ff_hX⟩ := own_cells hX; have zz_hX := own_lt hX; have zy_hX := Nat.lt_add_right 1 (own_lt hX)
          clear hu
          go_wp2_with fail
          refine named (p := fun W => Code.wp _ _ _ _ W) _ ?_
          intro W hW
          (try clear cc_hA ff_hA); (try clear zz_hA zy_hA)
          (try clear cc_hX ff_hX); (try clear zz_hX zy_hX)
          have zt := tt.size
          replace tt : Below w.heap.size w W := by
            rw [← hW]
            (repeat (first | with_reducible exact tt | (with_reducible refine Below.setCell ?_ ?_ _) | (with_reducible refine Below.alloc ?_ ?_ _) | with_reducible refine Below.drew ?_)); (all_goals (first | omega | (simp <;> omega)))
          replace hA := own_eq hW (by repeat (first | exact hA | apply own_alloc))
          replace hX := own_eq hW (by repeat (first | exact hX | apply own_alloc))
          clear hW zt
          refine wp_region_quiet_below (by kernel_rfl) (by kernel_rfl) ?_
          repeat (first
            | (refine qskip rfl (fun K hK => ?_); go_simp; refine hK _ ?_; clear hK K)
            | (apply qval rfl; (case h => (intro u hu; obtain ⟨_, _⟩ := own_cells (own_below hu hA); obtain ⟨_, _⟩ := own_cells (own_below hu hX); go_simp; exact rfl)); (intro K hK; go_simp; refine hK _ ?_; clear hK K))
            | (apply qcall rfl; (case h => (intro u hu; go_simp; exact ⟨rfl, rfl⟩)); (case hc => (intro u hu; with_reducible exact Calls.in_below hu (H6'.out _))); (intro K hK; go_simp; refine hK _ ?_; clear hK K))
            | (apply qcall rfl; (case h => (intro u hu; go_simp; exact ⟨rfl, rfl⟩)); (case hc => (intro u hu; with_reducible exact Calls.in_below hu (H7'.out _))); (intro K hK; go_simp; refine hK _ ?_; clear hK K))
            | (apply qcall rfl; (case h => (intro u hu; go_simp; exact ⟨rfl, rfl⟩)); (case hc => (intro u hu; with_reducible exact Calls.in_below hu (rightIn_any _ _ _ _ _ _ _ _ _ _ _))); (intro K hK; go_simp; refine hK _ ?_; clear hK K))
            | (apply qcall rfl; (case h => (intro u hu; go_simp; exact ⟨rfl, rfl⟩)); (case hc => (intro u hu; with_reducible exact Calls.in_below hu (rightOk_any _ _ _ _ _ _))); (intro K hK; go_simp; refine hK _ ?_; clear hK K)))
          refine wpQuiet_nil ?_
          intro w' hu
          replace tt := tt.trans (hu.mono tt.size)
          replace hA := own_below hu hA
          replace hX := own_below hu hX
          obtain ⟨cc_hA, ff_hA⟩ := own_cells hA; have zz_hA := own_lt hA; have zy_hA := Nat.lt_add_right 1 (own_lt hA)
          obtain ⟨cc_hX, ff_hX⟩ := own_cells hX; have zz_hX := own_lt hX; have zy_hX := Nat.lt_add_right 1 (own_lt hX)
          clear hu
          go_wp2_with fail
          go_ret
          exact ⟨rfl, tt⟩
      · obtain rfl : ta = 0 := by simpa using h0
        clear n6
        cases wt
        · go_wp2_with fail
          refine (H1'.out _).mono ?_
          rintro e w' ⟨rfl, hb⟩
          (try clear cc_hA ff_hA); (try clear zz_hA zy_hA)
          have zt := tt.size
          replace tt : Below w.heap.size w w' := by (refine Below.trans ?_ (hb.mono ?_)); (all_goals (repeat (first | with_reducible exact tt | (with_reducible refine Below.setCell ?_ ?_ _) | (with_reducible refine Below.alloc ?_ ?_ _) | with_reducible refine Below.drew ?_)); (all_goals (first | omega | (simp <;> omega))))
          clear zt
          replace hA := own_below hb (by repeat (first | exact hA | apply own_alloc))
          obtain ⟨cc_hA, ff_hA⟩ := own_cells hA; have zz_hA := own_lt hA; have zy_hA := Nat.lt_add_right 1 (own_lt hA)
          clear hb
          have hX := own_new w' (.cells #[.int .i64 0, .int .i64 va, .bool false, .bool false, .bool x5] 25)
          go_wp2_with fail
          refine named (p := fun W => Code.wp _ _ _ _ W) _ ?_
          intro W hW
          (try clear cc_hA ff_hA); (try clear zz_hA zy_hA)
          (try clear cc_hX ff_hX); (try clear zz_hX zy_hX)
          have zt := tt.size
          replace tt : Below w.heap.size w W := by
            rw [← hW]
            (repeat (first | with_reducible exact tt | (with_reducible refine Below.setCell ?_ ?_ _) | (with_reducible refine Below.alloc ?_ ?_ _) | with_reducible refine Below.drew ?_)); (all_goals (first | omega | (simp <;> omega)))
          replace hA := own_eq hW (by repeat (first | exact hA | apply own_alloc))
          replace hX := own_eq hW (by repeat (first | exact hX | apply own_alloc))
          clear hW zt
          refine wp_region_quiet_below (by kernel_rfl) (by kernel_rfl) ?_
          repeat (first
            | (refine qskip rfl (fun K hK => ?_); go_simp; refine hK _ ?_; clear hK K)
            | (apply qval rfl; (case h => (intro u hu; obtain ⟨_, _⟩ := own_cells (own_below hu hA); obtain ⟨_, _⟩ := own_cells (own_below hu hX); go_simp; exact rfl)); (intro K hK; go_simp; refine hK _ ?_; clear hK K))
            | (apply qcall rfl; (case h => (intro u hu; go_simp; exact ⟨rfl, rfl⟩)); (case hc => (intro u hu; with_reducible exact Calls.in_below hu (H2'.out _))); (intro K hK; go_simp; refine hK _ ?_; clear hK K))
            | (apply qcall rfl; (case h => (intro u hu; go_simp; exact ⟨rfl, rfl⟩)); (case hc => (intro u hu; with_reducible exact Calls.in_below hu (srightOk_any _ _ _ _ _ _))); (intro K hK; go_simp; refine hK _ ?_; clear hK K)))
          refine wpQuiet_nil ?_
          intro w' hu
          replace tt := tt.trans (hu.mono tt.size)
          replace hA := own_below hu hA
          replace hX := own_below hu hX
          obtain ⟨cc_hA, ff_hA⟩ := own_cells hA; have zz_hA := own_lt hA; have zy_hA := Nat.lt_add_right 1 (own_lt hA)
          obtain ⟨cc_hX, ff_hX⟩ := own_cells hX; have zz_hX := own_lt hX; have zy_hX := Nat.lt_add_right 1 (own_lt hX)
          clear hu
          go_wp2_with fail
          refine named (p := fun W => Code.wp _ _ _ _ W) _ ?_
          intro W hW
          (try clear cc_hA ff_hA); (try clear zz_hA zy_hA)
          (try clear cc_hX ff_hX); (try clear zz_hX zy_hX)
          have zt := tt.size
          replace tt : Below w.heap.size w W := by
            rw [← hW]
            (repeat (first | with_reducible exact tt | (with_reducible refine Below.setCell ?_ ?_ _) | (with_reducible refine Below.alloc ?_ ?_ _) | with_reducible refine Below.drew ?_)); (all_goals (first | omega | (simp <;> omega)))
          replace hA := own_eq hW (by repeat (first | exact hA | apply own_alloc))
          replace hX := own_eq hW (by repeat (first | exact hX | apply own_alloc))
          clear hW zt
          refine wp_region_quiet_below (by kernel_rfl) (by kernel_rfl) ?_
          repeat (first
            | (refine qskip rfl (fun K hK => ?_); go_simp; refine hK _ ?_; clear hK K)
            | (apply qval rfl; (case h => (intro u hu; obtain ⟨_, _⟩ := own_cells (own_below hu hA); obtain ⟨_, _⟩ := own_cells (own_below hu hX); go_simp; exact rfl)); (intro K hK; go_simp; refine hK _ ?_; clear hK K))
            | (apply qcall rfl; (case h => (intro u hu; go_simp; exact ⟨rfl, rfl⟩)); (case hc => (intro u hu; with_reducible exact Calls.in_below hu (H6'.out _))); (intro K hK; go_simp; refine hK _ ?_; clear hK K))
            | (apply qcall rfl; (case h => (intro u hu; go_simp; exact ⟨rfl, rfl⟩)); (case hc => (intro u hu; with_reducible exact Calls.in_below hu (H7'.out _))); (intro K hK; go_simp; refine hK _ ?_; clear hK K))
            | (apply qcall rfl; (case h => (intro u hu; go_simp; exact ⟨rfl, rfl⟩)); (case hc => (intro u hu; with_reducible exact Calls.in_below hu (rightIn_any _ _ _ _ _ _ _ _ _ _ _))); (intro K hK; go_simp; refine hK _ ?_; clear hK K))
            | (apply qcall rfl; (case h => (intro u hu; go_simp; exact ⟨rfl, rfl⟩)); (case hc => (intro u hu; with_reducible exact Calls.in_below hu (rightOk_any _ _ _ _ _ _))); (intro K hK; go_simp; refine hK _ ?_; clear hK K)))
          refine wpQuiet_nil ?_
          intro w' hu
          replace tt := tt.trans (hu.mono tt.size)
          replace hA := own_below hu hA
          replace hX := own_below hu hX
          obtain ⟨cc_hA, ff_hA⟩ := own_cells hA; have zz_hA := own_lt hA; have zy_hA := Nat.lt_add_right 1 (own_lt hA)
          obtain ⟨cc_hX, ff_hX⟩ := own_cells hX; have zz_hX := own_lt hX; have zy_hX := Nat.lt_add_right 1 (own_lt hX)
          clear hu
          go_wp2_with fail
          go_ret
          exact ⟨rfl, tt⟩
        · go_wp2_with fail
          refine (H1'.out _).mono ?_
          rintro e w' ⟨rfl, hb⟩
          (try clear cc_hA ff_hA); (try clear zz_hA zy_hA)
          have zt := tt.size
          replace tt : Below w.heap.size w w' := by (refine Below.trans ?_ (hb.mono ?_)); (all_goals (repeat (first | with_reducible exact tt | (with_reducible refine Below.setCell ?_ ?_ _) | (with_reducible refine Below.alloc ?_ ?_ _) | with_reducible refine Below.drew ?_)); (all_goals (first | omega | (simp <;> omega))))
          clear zt
          replace hA := own_below hb (by repeat (first | exact hA | apply own_alloc))
          obtain ⟨cc_hA, ff_hA⟩ := own_cells hA; have zz_hA := own_lt hA; have zy_hA := Nat.lt_add_right 1 (own_lt hA)
          clear hb
          have hX := own_new w' (.cells #[.int .i64 0, .int .i64 va, .bool false, .bool false, .bool x5] 25)
          go_wp2_with fail
          refine named (p := fun W => Code.wp _ _ _ _ W) _ ?_
          intro W hW
          (try clear cc_hA ff_hA); (try clear zz_hA zy_hA)
          (try clear cc_hX ff_hX); (try clear zz_hX zy_hX)
          have zt := tt.size
          replace tt : Below w.heap.size w W := by
            rw [← hW]
            (repeat (first | with_reducible exact tt | (with_reducible refine Below.setCell ?_ ?_ _) | (with_reducible refine Below.alloc ?_ ?_ _) | with_reducible refine Below.drew ?_)); (all_goals (first | omega | (simp <;> omega)))
          replace hA := own_eq hW (by repeat (first | exact hA | apply own_alloc))
          replace hX := own_eq hW (by repeat (first | exact hX | apply own_alloc))
          clear hW zt
          refine wp_region_quiet_below (by kernel_rfl) (by kernel_rfl) ?_
          repeat (first
            | (refine qskip rfl (fun K hK => ?_); go_simp; refine hK _ ?_; clear hK K)
            | (apply qval rfl; (case h => (intro u hu; obtain ⟨_, _⟩ := own_cells (own_below hu hA); obtain ⟨_, _⟩ := own_cells (own_below hu hX); go_simp; exact rfl)); (intro K hK; go_simp; refine hK _ ?_; clear hK K))
            | (apply qcall rfl; (case h => (intro u hu; go_simp; exact ⟨rfl, rfl⟩)); (case hc => (intro u hu; with_reducible exact Calls.in_below hu (H2'.out _))); (intro K hK; go_simp; refine hK _ ?_; clear hK K))
            | (apply qcall rfl; (case h => (intro u hu; go_simp; exact ⟨rfl, rfl⟩)); (case hc => (intro u hu; with_reducible exact Calls.in_below hu (srightOk_any _ _ _ _ _ _))); (intro K hK; go_simp; refine hK _ ?_; clear hK K)))
          refine wpQuiet_nil ?_
          intro w' hu
          replace tt := tt.trans (hu.mono tt.size)
          replace hA := own_below hu hA
          replace hX := own_below hu hX
          obtain ⟨cc_hA, ff_hA⟩ := own_cells hA; have zz_hA := own_lt hA; have zy_hA := Nat.lt_add_right 1 (own_lt hA)
          obtain ⟨cc_hX, ff_hX⟩ := own_cells hX; have zz_hX := own_lt hX; have zy_hX := Nat.lt_add_right 1 (own_lt hX)
          clear hu
          go_wp2_with fail
          refine named (p := fun W => Code.wp _ _ _ _ W) _ ?_
          intro W hW
          (try clear cc_hA ff_hA); (try clear zz_hA zy_hA)
          (try clear cc_hX ff_hX); (try clear zz_hX zy_hX)
          have zt := tt.size
          replace tt : Below w.heap.size w W := by
            rw [← hW]
            (repeat (first | with_reducible exact tt | (with_reducible refine Below.setCell ?_ ?_ _) | (with_reducible refine Below.alloc ?_ ?_ _) | with_reducible refine Below.drew ?_)); (all_goals (first | omega | (simp <;> omega)))
          replace hA := own_eq hW (by repeat (first | exact hA | apply own_alloc))
          replace hX := own_eq hW (by repeat (first | exact hX | apply own_alloc))
          clear hW zt
          refine wp_region_quiet_below (by kernel_rfl) (by kernel_rfl) ?_
          repeat (first
            | (refine qskip rfl (fun K hK => ?_); go_simp; refine hK _ ?_; clear hK K)
            | (apply qval rfl; (case h => (intro u hu; obtain ⟨_, _⟩ := own_cells (own_below hu hA); obtain ⟨_, _⟩ := own_cells (own_below hu hX); go_simp; exact rfl)); (intro K hK; go_simp; refine hK _ ?_; clear hK K))
            | (apply qcall rfl; (case h => (intro u hu; go_simp; exact ⟨rfl, rfl⟩)); (case hc => (intro u hu; with_reducible exact Calls.in_below hu (H6'.out _))); (intro K hK; go_simp; refine hK _ ?_; clear hK K))
            | (apply qcall rfl; (case h => (intro u hu; go_simp; exact ⟨rfl, rfl⟩)); (case hc => (intro u hu; with_reducible exact Calls.in_below hu (H7'.out _))); (intro K hK; go_simp; refine hK _ ?_; clear hK K))
            | (apply qcall rfl; (case h => (intro u hu; go_simp; exact ⟨rfl, rfl⟩)); (case hc => (intro u hu; with_reducible exact Calls.in_below hu (rightIn_any _ _ _ _ _ _ _ _ _ _ _))); (intro K hK; go_simp; refine hK _ ?_; clear hK K))
            | (apply qcall rfl; (case h => (intro u hu; go_simp; exact ⟨rfl, rfl⟩)); (case hc => (intro u hu; with_reducible exact Calls.in_below hu (rightOk_any _ _ _ _ _ _))); (intro K hK; go_simp; refine hK _ ?_; clear hK K)))
          refine wpQuiet_nil ?_
          intro w' hu
          replace tt := tt.trans (hu.mono tt.size)
          replace hA := own_below hu hA
          replace hX := own_below hu hX
          obtain ⟨cc_hA, ff_hA⟩ := own_cells hA; have zz_hA := own_lt hA; have zy_hA := Nat.lt_add_right 1 (own_lt hA)
          obtain ⟨cc_hX, ff_hX⟩ := own_cells hX; have zz_hX := own_lt hX; have zy_hX := Nat.lt_add_right 1 (own_lt hX)
          clear hu
          go_wp2_with fail
          go_ret
          exact ⟨rfl, tt⟩
    · clear n3 n5
      cases wt
      · obtain rfl : x4 = false := by simpa using n4
        clear n4
        go_wp2_with fail
        refine (H1'.out _).mono ?_
        rintro e w' ⟨rfl, hb⟩
        (try clear cc_hA ff_hA); (try clear zz_hA zy_hA)
        have zt := tt.size
        replace tt : Below w.heap.size w w' := by (refine Below.trans ?_ (hb.mono ?_)); (all_goals (repeat (first | with_reducible exact tt | (with_reducible refine Below.setCell ?_ ?_ _) | (with_reducible refine Below.alloc ?_ ?_ _) | with_reducible refine Below.drew ?_)); (all_goals (first | omega | (simp <;> omega))))
        clear zt
        replace hA := own_below hb (by repeat (first | exact hA | apply own_alloc))
        obtain ⟨cc_hA, ff_hA⟩ := own_cells hA; have zz_hA := own_lt hA; have zy_hA := Nat.lt_add_right 1 (own_lt hA)
        clear hb
        have hX := own_new w' (.cells #[.int .i64 ta, .int .i64 va, .bool false, .bool false, .bool x5] 25)
        go_wp2_with fail
        refine named (p := fun W => Code.wp _ _ _ _ W) _ ?_
        intro W hW
        (try clear cc_hA ff_hA); (try clear zz_hA zy_hA)
        (try clear cc_hX ff_hX); (try clear zz_hX zy_hX)
        have zt := tt.size
        replace tt : Below w.heap.size w W := by
          rw [← hW]
          (repeat (first | with_reducible exact tt | (with_reducible refine Below.setCell ?_ ?_ _) | (with_reducible refine Below.alloc ?_ ?_ _) | with_reducible refine Below.drew ?_)); (all_goals (first | omega | (simp <;> omega)))
        replace hA := own_eq hW (by repeat (first | exact hA | apply own_alloc))
        replace hX := own_eq hW (by repeat (first | exact hX | apply own_alloc))
        clear hW zt
        refine wp_region_quiet_below (by kernel_rfl) (by kernel_rfl) ?_
        repeat (first
          | (refine qskip rfl (fun K hK => ?_); go_simp; refine hK _ ?_; clear hK K)
          | (apply qval rfl; (case h => (intro u hu; obtain ⟨_, _⟩ := own_cells (own_below hu hA); obtain ⟨_, _⟩ := own_cells (own_below hu hX); go_simp; exact rfl)); (intro K hK; go_simp; refine hK _ ?_; clear hK K))
          | (apply qcall rfl; (case h => (intro u hu; go_simp; exact ⟨rfl, rfl⟩)); (case hc => (intro u hu; with_reducible exact Calls.in_below hu (H2'.out _))); (intro K hK; go_simp; refine hK _ ?_; clear hK K))
          | (apply qcall rfl; (case h => (intro u hu; go_simp; exact ⟨rfl, rfl⟩)); (case hc => (intro u hu; with_reducible exact Calls.in_below hu (srightOk_any _ _ _ _ _ _))); (intro K hK; go_simp; refine hK _ ?_; clear hK K)))
        refine wpQuiet_nil ?_
        intro w' hu
        replace tt := tt.trans (hu.mono tt.size)
        replace hA := own_below hu hA
        replace hX := own_below hu hX
        obtain ⟨cc_hA, ff_hA⟩ := own_cells hA; have zz_hA := own_lt hA; have zy_hA := Nat.lt_add_right 1 (own_lt hA)
        obtain ⟨cc_hX, ff_hX⟩ := own_cells hX; have zz_hX := own_lt hX; have zy_hX := Nat.lt_add_right 1 (own_lt hX)
        clear hu
        go_wp2_with fail
        refine named (p := fun W => Code.wp _ _ _ _ W) _ ?_
        intro W hW
        (try clear cc_hA ff_hA); (try clear zz_hA zy_hA)
        (try clear cc_hX ff_hX); (try clear zz_hX zy_hX)
        have zt := tt.size
        replace tt : Below w.heap.size w W := by
          rw [← hW]
          (repeat (first | with_reducible exact tt | (with_reducible refine Below.setCell ?_ ?_ _) | (with_reducible refine Below.alloc ?_ ?_ _) | with_reducible refine Below.drew ?_)); (all_goals (first | omega | (simp <;> omega)))
        replace hA := own_eq hW (by repeat (first | exact hA | apply own_alloc))
        replace hX := own_eq hW (by repeat (first | exact hX | apply own_alloc))
        clear hW zt
        refine wp_region_quiet_below (by kernel_rfl) (by kernel_rfl) ?_
        repeat (first
          | (refine qskip rfl (fun K hK => ?_); go_simp; refine hK _ ?_; clear hK K)
          | (apply qval rfl; (case h => (intro u hu; obtain ⟨_, _⟩ := own_cells (own_below hu hA); obtain ⟨_, _⟩ := own_cells (own_below hu hX); go_simp; exact rfl)); (intro K hK; go_simp; refine hK _ ?_; clear hK K))
          | (apply qcall rfl; (case h => (intro u hu; go_simp; exact ⟨rfl, rfl⟩)); (case hc => (intro u hu; with_reducible exact Calls.in_below hu (H6'.out _))); (intro K hK; go_simp; refine hK _ ?_; clear hK K))
          | (apply qcall rfl; (case h => (intro u hu; go_simp; exact ⟨rfl, rfl⟩)); (case hc => (intro u hu; with_reducible exact Calls.in_below hu (H7'.out _))); (intro K hK; go_simp; refine hK _ ?_; clear hK K))
          | (apply qcall rfl; (case h => (intro u hu; go_simp; exact ⟨rfl, rfl⟩)); (case hc => (intro u hu; with_reducible exact Calls.in_below hu (rightIn_any _ _ _ _ _ _ _ _ _ _ _))); (intro K hK; go_simp; refine hK _ ?_; clear hK K))
          | (apply qcall rfl; (case h => (intro u hu; go_simp; exact ⟨rfl, rfl⟩)); (case hc => (intro u hu; with_reducible exact Calls.in_below hu (rightOk_any _ _ _ _ _ _))); (intro K hK; go_simp; refine hK _ ?_; clear hK K)))
        refine wpQuiet_nil ?_
        intro w' hu
        replace tt := tt.trans (hu.mono tt.size)
        replace hA := own_below hu hA
        replace hX := own_below hu hX
        obtain ⟨cc_hA, ff_hA⟩ := own_cells hA; have zz_hA := own_lt hA; have zy_hA := Nat.lt_add_right 1 (own_lt hA)
        obtain ⟨cc_hX, ff_hX⟩ := own_cells hX; have zz_hX := own_lt hX; have zy_hX := Nat.lt_add_right 1 (own_lt hX)
        clear hu
        go_wp2_with fail
        go_ret
        exact ⟨rfl, tt⟩
      · clear n4
        go_wp2_with fail
        refine (H1'.out _).mono ?_
        rintro e w' ⟨rfl, hb⟩
        (try clear cc_hA ff_hA); (try clear zz_hA zy_hA)
        have zt := tt.size
        replace tt : Below w.heap.size w w' := by (refine Below.trans ?_ (hb.mono ?_)); (all_goals (repeat (first | with_reducible exact tt | (with_reducible refine Below.setCell ?_ ?_ _) | (with_reducible refine Below.alloc ?_ ?_ _) | with_reducible refine Below.drew ?_)); (all_goals (first | omega | (simp <;> omega))))
        clear zt
        replace hA := own_below hb (by repeat (first | exact hA | apply own_alloc))
        obtain ⟨cc_hA, ff_hA⟩ := own_cells hA; have zz_hA := own_lt hA; have zy_hA := Nat.lt_add_right 1 (own_lt hA)
        clear hb
        have hX := own_new w' (.cells #[.int .i64 ta, .int .i64 va, .bool false, .bool x4, .bool x5] 25)
        go_wp2_with fail
        refine named (p := fun W => Code.wp _ _ _ _ W) _ ?_
        intro W hW
        (try clear cc_hA ff_hA); (try clear zz_hA zy_hA)
        (try clear cc_hX ff_hX); (try clear zz_hX zy_hX)
        have zt := tt.size
        replace tt : Below w.heap.size w W := by
          rw [← hW]
          (repeat (first | with_reducible exact tt | (with_reducible refine Below.setCell ?_ ?_ _) | (with_reducible refine Below.alloc ?_ ?_ _) | with_reducible refine Below.drew ?_)); (all_goals (first | omega | (simp <;> omega)))
        replace hA := own_eq hW (by repeat (first | exact hA | apply own_alloc))
        replace hX := own_eq hW (by repeat (first | exact hX | apply own_alloc))
        clear hW zt
        refine wp_region_quiet_below (by kernel_rfl) (by kernel_rfl) ?_
        repeat (first
          | (refine qskip rfl (fun K hK => ?_); go_simp; refine hK _ ?_; clear hK K)
          | (apply qval rfl; (case h => (intro u hu; obtain ⟨_, _⟩ := own_cells (own_below hu hA); obtain ⟨_, _⟩ := own_cells (own_below hu hX); go_simp; exact rfl)); (intro K hK; go_simp; refine hK _ ?_; clear hK K))
          | (apply qcall rfl; (case h => (intro u hu; go_simp; exact ⟨rfl, rfl⟩)); (case hc => (intro u hu; with_reducible exact Calls.in_below hu (H2'.out _))); (intro K hK; go_simp; refine hK _ ?_; clear hK K))
          | (apply qcall rfl; (case h => (intro u hu; go_simp; exact ⟨rfl, rfl⟩)); (case hc => (intro u hu; with_reducible exact Calls.in_below hu (srightOk_any _ _ _ _ _ _))); (intro K hK; go_simp; refine hK _ ?_; clear hK K)))
        refine wpQuiet_nil ?_
        intro w' hu
        replace tt := tt.trans (hu.mono tt.size)
        replace hA := own_below hu hA
        replace hX := own_below hu hX
        obtain ⟨cc_hA, ff_hA⟩ := own_cells hA; have zz_hA := own_lt hA; have zy_hA := Nat.lt_add_right 1 (own_lt hA)
        obtain ⟨cc_hX, ff_hX⟩ := own_cells hX; have zz_hX := own_lt hX; have zy_hX := Nat.lt_add_right 1 (own_lt hX)
        clear hu
        go_wp2_with fail
        refine named (p := fun W => Code.wp _ _ _ _ W) _ ?_
        intro W hW
        (try clear cc_hA ff_hA); (try clear zz_hA zy_hA)
        (try clear cc_hX ff_hX); (try clear zz_hX zy_hX)
        have zt := tt.size
        replace tt : Below w.heap.size w W := by
          rw [← hW]
          (repeat (first | with_reducible exact tt | (with_reducible refine Below.setCell ?_ ?_ _) | (with_reducible refine Below.alloc ?_ ?_ _) | with_reducible refine Below.drew ?_)); (all_goals (first | omega | (simp <;> omega)))
        replace hA := own_eq hW (by repeat (first | exact hA | apply own_alloc))
        replace hX := own_eq hW (by repeat (first | exact hX | apply own_alloc))
        clear hW zt
        refine wp_region_quiet_below (by kernel_rfl) (by kernel_rfl) ?_
        repeat (first
          | (refine qskip rfl (fun K hK => ?_); go_simp; refine hK _ ?_; clear hK K)
          | (apply qval rfl; (case h => (intro u hu; obtain ⟨_, _⟩ := own_cells (own_below hu hA); obtain ⟨_, _⟩ := own_cells (own_below hu hX); go_simp; exact rfl)); (intro K hK; go_simp; refine hK _ ?_; clear hK K))
          | (apply qcall rfl; (case h => (intro u hu; go_simp; exact ⟨rfl, rfl⟩)); (case hc => (intro u hu; with_reducible exact Calls.in_below hu (H6'.out _))); (intro K hK; go_simp; refine hK _ ?_; clear hK K))
          | (apply qcall rfl; (case h => (intro u hu; go_simp; exact ⟨rfl, rfl⟩)); (case hc => (intro u hu; with_reducible exact Calls.in_below hu (H7'.out _))); (intro K hK; go_simp; refine hK _ ?_; clear hK K))
          | (apply qcall rfl; (case h => (intro u hu; go_simp; exact ⟨rfl, rfl⟩)); (case hc => (intro u hu; with_reducible exact Calls.in_below hu (rightIn_any _ _ _ _ _ _ _ _ _ _ _))); (intro K hK; go_simp; refine hK _ ?_; clear hK K))
          | (apply qcall rfl; (case h => (intro u hu; go_simp; exact ⟨rfl, rfl⟩)); (case hc => (intro u hu; with_reducible exact Calls.in_below hu (rightOk_any _ _ _ _ _ _))); (intro K hK; go_simp; refine hK _ ?_; clear hK K)))
        refine wpQuiet_nil ?_
        intro w' hu
        replace tt := tt.trans (hu.mono tt.size)
        replace hA := own_below hu hA
        replace hX := own_below hu hX
        obtain ⟨cc_hA, ff_hA⟩ := own_cells hA; have zz_hA := own_lt hA; have zy_hA := Nat.lt_add_right 1 (own_lt hA)
        obtain ⟨cc_hX, ff_hX⟩ := own_cells hX; have zz_hX := own_lt hX; have zy_hX := Nat.lt_add_right 1 (own_lt hX)
        clear hu
        go_wp2_with fail
        go_ret
        exact ⟨rfl, tt⟩
  · clear n3
    cases st
    · obtain rfl : x4 = false := by simpa using n4
      have n6 : (ta == 0) = true ∨ x5 = true := by simpa using n5
      clear n4 n5
      cases h0 : (ta == 0)
      · obtain rfl : x5 = true := by simpa [h0] using n6
        clear n6
        cases wt
        · go_wp2_with fail
          refine (H1'.out _).mono ?_
          rintro e w' ⟨rfl, hb⟩
          (try clear cc_hA ff_hA); (try clear zz_hA zy_hA)
          have zt := tt.size
          replace tt : Below w.heap.size w w' := by (refine Below.trans ?_ (hb.mono ?_)); (all_goals (repeat (first | with_reducible exact tt | (with_reducible refine Below.setCell ?_ ?_ _) | (with_reducible refine Below.alloc ?_ ?_ _) | with_reducible refine Below.drew ?_)); (all_goals (first | omega | (simp <;> omega))))
          clear zt
          replace hA := own_below hb (by repeat (first | exact hA | apply own_alloc))
          obtain ⟨cc_hA, ff_hA⟩ := own_cells hA; have zz_hA := own_lt hA; have zy_hA := Nat.lt_add_right 1 (own_lt hA)
          clear hb
          have hX := own_new w' (.cells #[.int .i64 ta, .int .i64 va, .bool x3, .bool false, .bool true] 25)
          go_wp2_with fail
          refine named (p := fun W => Code.wp _ _ _ _ W) _ ?_
          intro W hW
          (try clear cc_hA ff_hA); (try clear zz_hA zy_hA)
          (try clear cc_hX ff_hX); (try clear zz_hX zy_hX)
          have zt := tt.size
          replace tt : Below w.heap.size w W := by
            rw [← hW]
            (repeat (first | with_reducible exact tt | (with_reducible refine Below.setCell ?_ ?_ _) | (with_reducible refine Below.alloc ?_ ?_ _) | with_reducible refine Below.drew ?_)); (all_goals (first | omega | (simp <;> omega)))
          replace hA := own_eq hW (by repeat (first | exact hA | apply own_alloc))
          replace hX := own_eq hW (by repeat (first | exact hX | apply own_alloc))
          clear hW zt
          refine wp_region_quiet_below (by kernel_rfl) (by kernel_rfl) ?_
          repeat (first
            | (refine qskip rfl (fun K hK => ?_); go_simp; refine hK _ ?_; clear hK K)
            | (apply qval rfl; (case h => (intro u hu; obtain ⟨_, _⟩ := own_cells (own_below hu hA); obtain ⟨_, _⟩ := own_cells (own_below hu hX); go_simp; exact rfl)); (intro K hK; go_simp; refine hK _ ?_; clear hK K))
            | (apply qcall rfl; (case h => (intro u hu; go_simp; exact ⟨rfl, rfl⟩)); (case hc => (intro u hu; with_reducible exact Calls.in_below hu (H2'.out _))); (intro K hK; go_simp; refine hK _ ?_; clear hK K))
            | (apply qcall rfl; (case h => (intro u hu; go_simp; exact ⟨rfl, rfl⟩)); (case hc => (intro u hu; with_reducible exact Calls.in_below hu (srightOk_any _ _ _ _ _ _))); (intro K hK; go_simp; refine hK _ ?_; clear hK K)))
          refine wpQuiet_nil ?_
          intro w' hu
          replace tt := tt.trans (hu.mono tt.size)
          replace hA := own_below hu hA
          replace hX := own_below hu hX
          obtain ⟨cc_hA, ff_hA⟩ := own_cells hA; have zz_hA := own_lt hA; have zy_hA := Nat.lt_add_right 1 (own_lt hA)
          obtain ⟨cc_hX, ff_hX⟩ := own_cells hX; have zz_hX := own_lt hX; have zy_hX := Nat.lt_add_right 1 (own_lt hX)
          clear hu
          go_wp2_with fail
          refine named (p := fun W => Code.wp _ _ _ _ W) _ ?_
          intro W hW
          (try clear cc_hA ff_hA); (try clear zz_hA zy_hA)
          (try clear cc_hX ff_hX); (try clear zz_hX zy_hX)
          have zt := tt.size
          replace tt : Below w.heap.size w W := by
            rw [← hW]
            (repeat (first | with_reducible exact tt | (with_reducible refine Below.setCell ?_ ?_ _) | (with_reducible refine Below.alloc ?_ ?_ _) | with_reducible refine Below.drew ?_)); (all_goals (first | omega | (simp <;> omega)))
          replace hA := own_eq hW (by repeat (first | exact hA | apply own_alloc))
          replace hX := own_eq hW (by repeat (first | exact hX | apply own_alloc))
          clear hW zt
          refine wp_region_quiet_below (by kernel_rfl) (by kernel_rfl) ?_
          repeat (first
            | (refine qskip rfl (fun K hK => ?_); go_simp; refine hK _ ?_; clear hK K)
            | (apply qval rfl; (case h => (intro u hu; obtain ⟨_, _⟩ := own_cells (own_below hu hA); obtain ⟨_, _⟩ := own_cells (own_below hu hX); go_simp; exact rfl)); (intro K hK; go_simp; refine hK _ ?_; clear hK K))
            | (apply qcall rfl; (case h => (intro u hu; go_simp; exact ⟨rfl, rfl⟩)); (case hc => (intro u hu; with_reducible exact Calls.in_below hu (H6'.out _))); (intro K hK; go_simp; refine hK _ ?_; clear hK K))
            | (apply qcall rfl; (case h => (intro u hu; go_simp; exact ⟨rfl, rfl⟩)); (case hc => (intro u hu; with_reducible exact Calls.in_below hu (H7'.out _))); (intro K hK; go_simp; refine hK _ ?_; clear hK K))
            | (apply qcall rfl; (case h => (intro u hu; go_simp; exact ⟨rfl, rfl⟩)); (case hc => (intro u hu; with_reducible exact Calls.in_below hu (rightIn_any _ _ _ _ _ _ _ _ _ _ _))); (intro K hK; go_simp; refine hK _ ?_; clear hK K))
            | (apply qcall rfl; (case h => (intro u hu; go_simp; exact ⟨rfl, rfl⟩)); (case hc => (intro u hu; with_reducible exact Calls.in_below hu (rightOk_any _ _ _ _ _ _))); (intro K hK; go_simp; refine hK _ ?_; clear hK K)))
          refine wpQuiet_nil ?_
          intro w' hu
          replace tt := tt.trans (hu.mono tt.size)
          replace hA := own_below hu hA
          replace hX := own_below hu hX
          obtain ⟨cc_hA, ff_hA⟩ := own_cells hA; have zz_hA := own_lt hA; have zy_hA := Nat.lt_add_right 1 (own_lt hA)
          obtain ⟨cc_hX, ff_hX⟩ := own_cells hX; have zz_hX := own_lt hX; have zy_hX := Nat.lt_add_right 1 (own_lt hX)
          clear hu
          go_wp2_with fail
          go_ret
          exact ⟨rfl, tt⟩
        · go_wp2_with fail
          refine (H1'.out _).mono ?_
          rintro e w' ⟨rfl, hb⟩
          (try clear cc_hA ff_hA); (try clear zz_hA zy_hA)
          have zt := tt.size
          replace tt : Below w.heap.size w w' := by (refine Below.trans ?_ (hb.mono ?_)); (all_goals (repeat (first | with_reducible exact tt | (with_reducible refine Below.setCell ?_ ?_ _) | (with_reducible refine Below.alloc ?_ ?_ _) | with_reducible refine Below.drew ?_)); (all_goals (first | omega | (simp <;> omega))))
          clear zt
          replace hA := own_below hb (by repeat (first | exact hA | apply own_alloc))
          obtain ⟨cc_hA, ff_hA⟩ := own_cells hA; have zz_hA := own_lt hA; have zy_hA := Nat.lt_add_right 1 (own_lt hA)
          clear hb
          have hX := own_new w' (.cells #[.int .i64 ta, .int .i64 va, .bool x3, .bool false, .bool true] 25)
          go_wp2_with fail
          refine named (p := fun W => Code.wp _ _ _ _ W) _ ?_
          intro W hW
          (try clear cc_hA ff_hA); (try clear zz_hA zy_hA)
          (try clear cc_hX ff_hX); (try clear zz_hX zy_hX)
          have zt := tt.size
          replace tt : Below w.heap.size w W := by
            rw [← hW]
            (repeat (first | with_reducible exact tt | (with_reducible refine Below.setCell ?_ ?_ _) | (with_reducible refine Below.alloc ?_ ?_ _) | with_reducible refine Below.drew ?_)); (all_goals (first | omega | (simp <;> omega)))
          replace hA := own_eq hW (by repeat (first | exact hA | apply own_alloc))
          replace hX := own_eq hW (by repeat (first | exact hX | apply own_alloc))
          clear hW zt
          refine wp_region_quiet_below (by kernel_rfl) (by kernel_rfl) ?_
          repeat (first
            | (refine qskip rfl (fun K hK => ?_); go_simp; refine hK _ ?_; clear hK K)
            | (apply qval rfl; (case h => (intro u hu; obtain ⟨_, _⟩ := own_cells (own_below hu hA); obtain ⟨_, _⟩ := own_cells (own_below hu hX); go_simp; exact rfl)); (intro K hK; go_simp; refine hK _ ?_; clear hK K))
            | (apply qcall rfl; (case h => (intro u hu; go_simp; exact ⟨rfl, rfl⟩)); (case hc => (intro u hu; with_reducible exact Calls.in_below hu (H2'.out _))); (intro K hK; go_simp; refine hK _ ?_; clear hK K))
            | (apply qcall rfl; (case h => (intro u hu; go_simp; exact ⟨rfl, rfl⟩)); (case hc => (intro u hu; with_reducible exact Calls.in_below hu (srightOk_any _ _ _ _ _ _))); (intro K hK; go_simp; refine hK _ ?_; clear hK K)))
          refine wpQuiet_nil ?_
          intro w' hu
          replace tt := tt.trans (hu.mono tt.size)
          replace hA := own_below hu hA
          replace hX := own_below hu hX
          obtain ⟨cc_hA, ff_hA⟩ := own_cells hA; have zz_hA := own_lt hA; have zy_hA := Nat.lt_add_right 1 (own_lt hA)
          obtain ⟨cc_hX, ff_hX⟩ := own_cells hX; have zz_hX := own_lt hX; have zy_hX := Nat.lt_add_right 1 (own_lt hX)
          clear hu
          go_wp2_with fail
          refine named (p := fun W => Code.wp _ _ _ _ W) _ ?_
          intro W hW
          (try clear cc_hA ff_hA); (try clear zz_hA zy_hA)
          (try clear cc_hX ff_hX); (try clear zz_hX zy_hX)
          have zt := tt.size
          replace tt : Below w.heap.size w W := by
            rw [← hW]
            (repeat (first | with_reducible exact tt | (with_reducible refine Below.setCell ?_ ?_ _) | (with_reducible refine Below.alloc ?_ ?_ _) | with_reducible refine Below.drew ?_)); (all_goals (first | omega | (simp <;> omega)))
          replace hA := own_eq hW (by repeat (first | exact hA | apply own_alloc))
          replace hX := own_eq hW (by repeat (first | exact hX | apply own_alloc))
          clear hW zt
          refine wp_region_quiet_below (by kernel_rfl) (by kernel_rfl) ?_
          repeat (first
            | (refine qskip rfl (fun K hK => ?_); go_simp; refine hK _ ?_; clear hK K)
            | (apply qval rfl; (case h => (intro u hu; obtain ⟨_, _⟩ := own_cells (own_below hu hA); obtain ⟨_, _⟩ := own_cells (own_below hu hX); go_simp; exact rfl)); (intro K hK; go_simp; refine hK _ ?_; clear hK K))
            | (apply qcall rfl; (case h => (intro u hu; go_simp; exact ⟨rfl, rfl⟩)); (case hc => (intro u hu; with_reducible exact Calls.in_below hu (H6'.out _))); (intro K hK; go_simp; refine hK _ ?_; clear hK K))
            | (apply qcall rfl; (case h => (intro u hu; go_simp; exact ⟨rfl, rfl⟩)); (case hc => (intro u hu; with_reducible exact Calls.in_below hu (H7'.out _))); (intro K hK; go_simp; refine hK _ ?_; clear hK K))
            | (apply qcall rfl; (case h => (intro u hu; go_simp; exact ⟨rfl, rfl⟩)); (case hc => (intro u hu; with_reducible exact Calls.in_below hu (rightIn_any _ _ _ _ _ _ _ _ _ _ _))); (intro K hK; go_simp; refine hK _ ?_; clear hK K))
            | (apply qcall rfl; (case h => (intro u hu; go_simp; exact ⟨rfl, rfl⟩)); (case hc => (intro u hu; with_reducible exact Calls.in_below hu (rightOk_any _ _ _ _ _ _))); (intro K hK; go_simp; refine hK _ ?_; clear hK K)))
          refine wpQuiet_nil ?_
          intro w' hu
          replace tt := tt.trans (hu.mono tt.size)
          replace hA := own_below hu hA
          replace hX := own_below hu hX
          obtain ⟨cc_hA, ff_hA⟩ := own_cells hA; have zz_hA := own_lt hA; have zy_hA := Nat.lt_add_right 1 (own_lt hA)
          obtain ⟨cc_hX, ff_hX⟩ := own_cells hX; have zz_hX := own_lt hX; have zy_hX := Nat.lt_add_right 1 (own_lt hX)
          clear hu
          go_wp2_with fail
          go_ret
          exact ⟨rfl, tt⟩
      · obtain rfl : ta = 0 := by simpa using h0
        clear n6
        cases wt
        · go_wp2_with fail
          refine (H1'.out _).mono ?_
          rintro e w' ⟨rfl, hb⟩
          (try clear cc_hA ff_hA); (try clear zz_hA zy_hA)
          have zt := tt.size
          replace tt : Below w.heap.size w w' := by (refine Below.trans ?_ (hb.mono ?_)); (all_goals (repeat (first | with_reducible exact tt | (with_reducible refine Below.setCell ?_ ?_ _) | (with_reducible refine Below.alloc ?_ ?_ _) | with_reducible refine Below.drew ?_)); (all_goals (first | omega | (simp <;> omega))))
          clear zt
          replace hA := own_below hb (by repeat (first | exact hA | apply own_alloc))
          obtain ⟨cc_hA, ff_hA⟩ := own_cells hA; have zz_hA := own_lt hA; have zy_hA := Nat.lt_add_right 1 (own_lt hA)
          clear hb
          have hX := own_new w' (.cells #[.int .i64 0, .int .i64 va, .bool x3, .bool false, .bool x5] 25)
          go_wp2_with fail
          refine named (p := fun W => Code.wp _ _ _ _ W) _ ?_
          intro W hW
          (try clear cc_hA ff_hA); (try clear zz_hA zy_hA)
          (try clear cc_hX ff_hX); (try clear zz_hX zy_hX)
          have zt := tt.size
          replace tt : Below w.heap.size w W := by
            rw [← hW]
            (repeat (first | with_reducible exact tt | (with_reducible refine Below.setCell ?_ ?_ _) | (with_reducible refine Below.alloc ?_ ?_ _) | with_reducible refine Below.drew ?_)); (all_goals (first | omega | (simp <;> omega)))
          replace hA := own_eq hW (by repeat (first | exact hA | apply own_alloc))
          replace hX := own_eq hW (by repeat (first | exact hX | apply own_alloc))
          clear hW zt
          refine wp_region_quiet_below (by kernel_rfl) (by kernel_rfl) ?_
          repeat (first
            | (refine qskip rfl (fun K hK => ?_); go_simp; refine hK _ ?_; clear hK K)
            | (apply qval rfl; (case h => (intro u hu; obtain ⟨_, _⟩ := own_cells (own_below hu hA); obtain ⟨_, _⟩ := own_cells (own_below hu hX); go_simp; exact rfl)); (intro K hK; go_simp; refine hK _ ?_; clear hK K))
            | (apply qcall rfl; (case h => (intro u hu; go_simp; exact ⟨rfl, rfl⟩)); (case hc => (intro u hu; with_reducible exact Calls.in_below hu (H2'.out _))); (intro K hK; go_simp; refine hK _ ?_; clear hK K))
            | (apply qcall rfl; (case h => (intro u hu; go_simp; exact ⟨rfl, rfl⟩)); (case hc => (intro u hu; with_reducible exact Calls.in_below hu (srightOk_any _ _ _ _ _ _))); (intro K hK; go_simp; refine hK _ ?_; clear hK K)))
          refine wpQuiet_nil ?_
          intro w' hu
          replace tt := tt.trans (hu.mono tt.size)
          replace hA := own_below hu hA
          replace hX := own_below hu hX
          obtain ⟨cc_hA, ff_hA⟩ := own_cells hA; have zz_hA := own_lt hA; have zy_hA := Nat.lt_add_right 1 (own_lt hA)
          obtain ⟨cc_hX, ff_hX⟩ := own_cells hX; have zz_hX := own_lt hX; have zy_hX := Nat.lt_add_right 1 (own_lt hX)
          clear hu
          go_wp2_with fail
          refine named (p := fun W => Code.wp _ _ _ _ W) _ ?_
          intro W hW
          (try clear cc_hA ff_hA); (try clear zz_hA zy_hA)
          (try clear cc_hX ff_hX); (try clear zz_hX zy_hX)
          have zt := tt.size
          replace tt : Below w.heap.size w W := by
            rw [← hW]
            (repeat (first | with_reducible exact tt | (with_reducible refine Below.setCell ?_ ?_ _) | (with_reducible refine Below.alloc ?_ ?_ _) | with_reducible refine Below.drew ?_)); (all_goals (first | omega | (simp <;> omega)))
          replace hA := own_eq hW (by repeat (first | exact hA | apply own_alloc))
          replace hX := own_eq hW (by repeat (first | exact hX | apply own_alloc))
          clear hW zt
          refine wp_region_quiet_below (by kernel_rfl) (by kernel_rfl) ?_
          repeat (first
            | (refine qskip rfl (fun K hK => ?_); go_simp; refine hK _ ?_; clear hK K)
            | (apply qval rfl; (case h => (intro u hu; obtain ⟨_, _⟩ := own_cells (own_below hu hA); obtain ⟨_, _⟩ := own_cells (own_below hu hX); go_simp; exact rfl)); (intro K hK; go_simp; refine hK _ ?_; clear hK K))
            | (apply qcall rfl; (case h => (intro u hu; go_simp; exact ⟨rfl, rfl⟩)); (case hc => (intro u hu; with_reducible exact Calls.in_below hu (H6'.out _))); (intro K hK; go_simp; refine hK _ ?_; clear hK K))
            | (apply qcall rfl; (case h => (intro u hu; go_simp; exact ⟨rfl, rfl⟩)); (case hc => (intro u hu; with_reducible exact Calls.in_below hu (H7'.out _))); (intro K hK; go_simp; refine hK _ ?_; clear hK K))
            | (apply qcall rfl; (case h => (intro u hu; go_simp; exact ⟨rfl, rfl⟩)); (case hc => (intro u hu; with_reducible exact Calls.in_below hu (rightIn_any _ _ _ _ _ _ _ _ _ _ _))); (intro K hK; go_simp; refine hK _ ?_; clear hK K))
            | (apply qcall rfl; (case h => (intro u hu; go_simp; exact ⟨rfl, rfl⟩)); (case hc => (intro u hu; with_reducible exact Calls.in_below hu (rightOk_any _ _ _ _ _ _))); (intro K hK; go_simp; refine hK _ ?_; clear hK K)))
          refine wpQuiet_nil ?_
          intro w' hu
          replace tt := tt.trans (hu.mono tt.size)
          replace hA := own_below hu hA
          replace hX := own_below hu hX
          obtain ⟨cc_hA, ff_hA⟩ := own_cells hA; have zz_hA := own_lt hA; have zy_hA := Nat.lt_add_right 1 (own_lt hA)
          obtain ⟨cc_hX, ff_hX⟩ := own_cells hX; have zz_hX := own_lt hX; have zy_hX := Nat.lt_add_right 1 (own_lt hX)
          clear hu
          go_wp2_with fail
          go_ret
          exact ⟨rfl, tt⟩
        · go_wp2_with fail
          refine (H1'.out _).mono ?_
          rintro e w' ⟨rfl, hb⟩
          (try clear cc_hA ff_hA); (try clear zz_hA zy_hA)
          have zt := tt.size
          replace tt : Below w.heap.size w w' := by (refine Below.trans ?_ (hb.mono ?_)); (all_goals (repeat (first | with_reducible exact tt | (with_reducible refine Below.setCell ?_ ?_ _) | (with_reducible refine Below.alloc ?_ ?_ _) | with_reducible refine Below.drew ?_)); (all_goals (first | omega | (simp <;> omega))))
          clear zt
          replace hA := own_below hb (by repeat (first | exact hA | apply own_alloc))
          obtain ⟨cc_hA, ff_hA⟩ := own_cells hA; have zz_hA := own_lt hA; have zy_hA := Nat.lt_add_right 1 (own_lt hA)
          clear hb
          have hX := own_new w' (.cells #[.int .i64 0, .int .i64 va, .bool x3, .bool false, .bool x5] 25)
          go_wp2_with fail
          refine named (p := fun W => Code.wp _ _ _ _ W) _ ?_
          intro W hW
          (try clear cc_hA ff_hA); (try clear zz_hA zy_hA)
          (try clear cc_hX ff_hX); (try clear zz_hX zy_hX)
          have zt := tt.size
          replace tt : Below w.heap.size w W := by
            rw [← hW]
            (repeat (first | with_reducible exact tt | (with_reducible refine Below.setCell ?_ ?_ _) | (with_reducible refine Below.alloc ?_ ?_ _) | with_reducible refine Below.drew ?_)); (all_goals (first | omega | (simp <;> omega)))
          replace hA := own_eq hW (by repeat (first | exact hA | apply own_alloc))
          replace hX := own_eq hW (by repeat (first | exact hX | apply own_alloc))
          clear hW zt
          refine wp_region_quiet_below (by kernel_rfl) (by kernel_rfl) ?_
          repeat (first
            | (refine qskip rfl (fun K hK => ?_); go_simp; refine hK _ ?_; clear hK K)
            | (apply qval rfl; (case h => (intro u hu; obtain ⟨_, _⟩ := own_cells (own_below hu hA); obtain ⟨_, _⟩ := own_cells (own_below hu hX); go_simp; exact rfl)); (intro K hK; go_simp; refine hK _ ?_; clear hK K))
            | (apply qcall rfl; (case h => (intro u hu; go_simp; exact ⟨rfl, rfl⟩)); (case hc => (intro u hu; with_reducible exact Calls.in_below hu (H2'.out _))); (intro K hK; go_simp; refine hK _ ?_; clear hK K))
            | (apply qcall rfl; (case h => (intro u hu; go_simp; exact ⟨rfl, rfl⟩)); (case hc => (intro u hu; with_reducible exact Calls.in_below hu (srightOk_any _ _ _ _ _ _))); (intro K hK; go_simp; refine hK _ ?_; clear hK K)))
          refine wpQuiet_nil ?_
          intro w' hu
          replace tt := tt.trans (hu.mono tt.size)
          replace hA := own_below hu hA
          replace hX := own_below hu hX
          obtain ⟨cc_hA, ff_hA⟩ := own_cells hA; have zz_hA := own_lt hA; have zy_hA := Nat.lt_add_right 1 (own_lt hA)
          obtain ⟨cc_hX, ff_hX⟩ := own_cells hX; have zz_hX := own_lt hX; have zy_hX := Nat.lt_add_right 1 (own_lt hX)
          clear hu
          go_wp2_with fail
          refine named (p := fun W => Code.wp _ _ _ _ W) _ ?_
          intro W hW
          (try clear cc_hA ff_hA); (try clear zz_hA zy_hA)
          (try clear cc_hX ff_hX); (try clear zz_hX zy_hX)
          have zt := tt.size
          replace tt : Below w.heap.size w W := by
            rw [← hW]
            (repeat (first | with_reducible exact tt | (with_reducible refine Below.setCell ?_ ?_ _) | (with_reducible refine Below.alloc ?_ ?_ _) | with_reducible refine Below.drew ?_)); (all_goals (first | omega | (simp <;> omega)))
          replace hA := own_eq hW (by repeat (first | exact hA | apply own_alloc))
          replace hX := own_eq hW (by repeat (first | exact hX | apply own_alloc))
          clear hW zt
          refine wp_region_quiet_below (by kernel_rfl) (by kernel_rfl) ?_
          repeat (first
            | (refine qskip rfl (fun K hK => ?_); go_simp; refine hK _ ?_; clear hK K)
            | (apply qval rfl; (case h => (intro u hu; obtain ⟨_, _⟩ := own_cells (own_below hu hA); obtain ⟨_, _⟩ := own_cells (own_below hu hX); go_simp; exact rfl)); (intro K hK; go_simp; refine hK _ ?_; clear hK K))
            | (apply qcall rfl; (case h => (intro u hu; go_simp; exact ⟨rfl, rfl⟩)); (case hc => (intro u hu; with_reducible exact Calls.in_below hu (H6'.out _))); (intro K hK; go_simp; refine hK _ ?_; clear hK K))
            | (apply qcall rfl; (case h => (intro u hu; go_simp; exact ⟨rfl, rfl⟩)); (case hc => (intro u hu; with_reducible exact Calls.in_below hu (H7'.out _))); (intro K hK; go_simp; refine hK _ ?_; clear hK K))
            | (apply qcall rfl; (case h => (intro u hu; go_simp; exact ⟨rfl, rfl⟩)); (case hc => (intro u hu; with_reducible exact Calls.in_below hu (rightIn_any _ _ _ _ _ _ _ _ _ _ _))); (intro K hK; go_simp; refine hK _ ?_; clear hK K))
            | (apply qcall rfl; (case h => (intro u hu; go_simp; exact ⟨rfl, rfl⟩)); (case hc => (intro u hu; with_reducible exact Calls.in_below hu (rightOk_any _ _ _ _ _ _))); (intro K hK; go_simp; refine hK _ ?_; clear hK K)))
          refine wpQuiet_nil ?_
          intro w' hu
          replace tt := tt.trans (hu.mono tt.size)
          replace hA := own_below hu hA
          replace hX := own_below hu hX
          obtain ⟨cc_hA, ff_hA⟩ := own_cells hA; have zz_hA := own_lt hA; have zy_hA := Nat.lt_add_right 1 (own_lt hA)
          obtain ⟨cc_hX, ff_hX⟩ := own_cells hX; have zz_hX := own_lt hX; have zy_hX := Nat.lt_add_right 1 (own_lt hX)
          clear hu
          go_wp2_with fail
          go_ret
          exact ⟨rfl, tt⟩
    · clear n5
      cases wt
      · obtain rfl : x4 = false := by simpa using n4
        clear n4
        go_wp2_with fail
        refine (H1'.out _).mono ?_
        rintro e w' ⟨rfl, hb⟩
        (try clear cc_hA ff_hA); (try clear zz_hA zy_hA)
        have zt := tt.size
        replace tt : Below w.heap.size w w' := by (refine Below.trans ?_ (hb.mono ?_)); (all_goals (repeat (first | with_reducible exact tt | (with_reducible refine Below.setCell ?_ ?_ _) | (with_reducible refine Below.alloc ?_ ?_ _) | with_reducible refine Below.drew ?_)); (all_goals (first | omega | (simp <;> omega))))
        clear zt
        replace hA := own_below hb (by repeat (first | exact hA | apply own_alloc))
        obtain ⟨cc_hA, ff_hA⟩ := own_cells hA; have zz_hA := own_lt hA; have zy_hA := Nat.lt_add_right 1 (own_lt hA)
        clear hb
        have hX := own_new w' (.cells #[.int .i64 ta, .int .i64 va, .bool x3, .bool false, .bool x5] 25)
        go_wp2_with fail
        refine named (p := fun W => Code.wp _ _ _ _ W) _ ?_
        intro W hW
        (try clear cc_hA ff_hA); (try clear zz_hA zy_hA)
        (try clear cc_hX ff_hX); (try clear zz_hX zy_hX)
        have zt := tt.size
        replace tt : Below w.heap.size w W := by
          rw [← hW]
          (repeat (first | with_reducible exact tt | (with_reducible refine Below.setCell ?_ ?_ _) | (with_reducible refine Below.alloc ?_ ?_ _) | with_reducible refine Below.drew ?_)); (all_goals (first | omega | (simp <;> omega)))
        replace hA := own_eq hW (by repeat (first | exact hA | apply own_alloc))
        replace hX := own_eq hW (by repeat (first | exact hX | apply own_alloc))
        clear hW zt
        refine wp_region_quiet_below (by kernel_rfl) (by kernel_rfl) ?_
        repeat (first
          | (refine qskip rfl (fun K hK => ?_); go_simp; refine hK _ ?_; clear hK K)
          | (apply qval rfl; (case h => (intro u hu; obtain ⟨_, _⟩ := own_cells (own_below hu hA); obtain ⟨_, _⟩ := own_cells (own_below hu hX); go_simp; exact rfl)); (intro K hK; go_simp; refine hK _ ?_; clear hK K))
          | (apply qcall rfl; (case h => (intro u hu; go_simp; exact ⟨rfl, rfl⟩)); (case hc => (intro u hu; with_reducible exact Calls.in_below hu (H2'.out _))); (intro K hK; go_simp; refine hK _ ?_; clear hK K))
          | (apply qcall rfl; (case h => (intro u hu; go_simp; exact ⟨rfl, rfl⟩)); (case hc => (intro u hu; with_reducible exact Calls.in_below hu (srightOk_any _ _ _ _ _ _))); (intro K hK; go_simp; refine hK _ ?_; clear hK K)))
        refine wpQuiet_nil ?_
        intro w' hu
        replace tt := tt.trans (hu.mono tt.size)
        replace hA := own_below hu hA
        replace hX := own_below hu hX
        obtain ⟨cc_hA, ff_hA⟩ := own_cells hA; have zz_hA := own_lt hA; have zy_hA := Nat.lt_add_right 1 (own_lt hA)
        obtain ⟨cc_hX, ff_hX⟩ := own_cells hX; have zz_hX := own_lt hX; have zy_hX := Nat.lt_add_right 1 (own_lt hX)
        clear hu
        go_wp2_with fail
        refine named (p := fun W => Code.wp _ _ _ _ W) _ ?_
        intro W hW
        (try clear cc_hA ff_hA); (try clear zz_hA zy_hA)
        (try clear cc_hX ff_hX); (try clear zz_hX zy_hX)
        have zt := tt.size
        replace tt : Below w.heap.size w W := by
          rw [← hW]
          (repeat (first | with_reducible exact tt | (with_reducible refine Below.setCell ?_ ?_ _) | (with_reducible refine Below.alloc ?_ ?_ _) | with_reducible refine Below.drew ?_)); (all_goals (first | omega | (simp <;> omega)))
        replace hA := own_eq hW (by repeat (first | exact hA | apply own_alloc))
        replace hX := own_eq hW (by repeat (first | exact hX | apply own_alloc))
        clear hW zt
        refine wp_region_quiet_below (by kernel_rfl) (by kernel_rfl) ?_
        repeat (first
          | (refine qskip rfl (fun K hK => ?_); go_simp; refine hK _ ?_; clear hK K)
          | (apply qval rfl; (case h => (intro u hu; obtain ⟨_, _⟩ := own_cells (own_below hu hA); obtain ⟨_, _⟩ := own_cells (own_below hu hX); go_simp; exact rfl)); (intro K hK; go_simp; refine hK _ ?_; clear hK K))
          | (apply qcall rfl; (case h => (intro u hu; go_simp; exact ⟨rfl, rfl⟩)); (case hc => (intro u hu; with_reducible exact Calls.in_below hu (H6'.out _))); (intro K hK; go_simp; refine hK _ ?_; clear hK K))
          | (apply qcall rfl; (case h => (intro u hu; go_simp; exact ⟨rfl, rfl⟩)); (case hc => (intro u hu; with_reducible exact Calls.in_below hu (H7'.out _))); (intro K hK; go_simp; refine hK _ ?_; clear hK K))
          | (apply qcall rfl; (case h => (intro u hu; go_simp; exact ⟨rfl, rfl⟩)); (case hc => (intro u hu; with_reducible exact Calls.in_below hu (rightIn_any _ _ _ _ _ _ _ _ _ _ _))); (intro K hK; go_simp; refine hK _ ?_; clear hK K))
          | (apply qcall rfl; (case h => (intro u hu; go_simp; exact ⟨rfl, rfl⟩)); (case hc => (intro u hu; with_reducible exact Calls.in_below hu (rightOk_any _ _ _ _ _ _))); (intro K hK; go_simp; refine hK _ ?_; clear hK K)))
        refine wpQuiet_nil ?_
        intro w' hu
        replace tt := tt.trans (hu.mono tt.size)
        replace hA := own_below hu hA
        replace hX := own_below hu hX
        obtain ⟨cc_hA, ff_hA⟩ := own_cells hA; have zz_hA := own_lt hA; have zy_hA := Nat.lt_add_right 1 (own_lt hA)
        obtain ⟨cc_hX, ff_hX⟩ := own_cells hX; have zz_hX := own_lt hX; have zy_hX := Nat.lt_add_right 1 (own_lt hX)
        clear hu
        go_wp2_with fail
        go_ret
        exact ⟨rfl, tt⟩
      · clear n4
        go_wp2_with fail
        refine (H1'.out _).mono ?_
        rintro e w' ⟨rfl, hb⟩
        (try clear cc_hA ff_hA); (try clear zz_hA zy_hA)
        have zt := tt.size
        replace tt : Below w.heap.size w w' := by (refine Below.trans ?_ (hb.mono ?_)); (all_goals (repeat (first | with_reducible exact tt | (with_reducible refine Below.setCell ?_ ?_ _) | (with_reducible refine Below.alloc ?_ ?_ _) | with_reducible refine Below.drew ?_)); (all_goals (first | omega | (simp <;> omega))))
        clear zt
        replace hA := own_below hb (by repeat (first | exact hA | apply own_alloc))
        obtain ⟨cc_hA, ff_hA⟩ := own_cells hA; have zz_hA := own_lt hA; have zy_hA := Nat.lt_add_right 1 (own_lt hA)
        clear hb
        have hX := own_new w' (.cells #[.int .i64 ta, .int .i64 va, .bool x3, .bool x4, .bool x5] 25)
        go_wp2_with fail
        refine named (p := fun W => Code.wp _ _ _ _ W) _ ?_
        intro W hW
        (try clear cc_hA ff_hA); (try clear zz_hA zy_hA)
        (try clear cc_hX ff_hX); (try clear zz_hX zy_hX)
        have zt := tt.size
        replace tt : Below w.heap.size w W := by
          rw [← hW]
          (repeat (first | with_reducible exact tt | (with_reducible refine Below.setCell ?_ ?_ _) | (with_reducible refine Below.alloc ?_ ?_ _) | with_reducible refine Below.drew ?_)); (all_goals (first | omega | (simp <;> omega)))
        replace hA := own_eq hW (by repeat (first | exact hA | apply own_alloc))
        replace hX := own_eq hW (by repeat (first | exact hX | apply own_alloc))
        clear hW zt
        refine wp_region_quiet_below (by kernel_rfl) (by kernel_rfl) ?_
        repeat (first
          | (refine qskip rfl (fun K hK => ?_); go_simp; refine hK _ ?_; clear hK K)
          | (apply qval rfl; (case h => (intro u hu; obtain ⟨_, _⟩ := own_cells (own_below hu hA); obtain ⟨_, _⟩ := own_cells (own_below hu hX); go_simp; exact rfl)); (intro K hK; go_simp; refine hK _ ?_; clear hK K))
          | (apply qcall rfl; (case h => (intro u hu; go_simp; exact ⟨rfl, rfl⟩)); (case hc => (intro u hu; with_reducible exact Calls.in_below hu (H2'.out _))); (intro K hK; go_simp; refine hK _ ?_; clear hK K))
          | (apply qcall rfl; (case h => (intro u hu; go_simp; exact ⟨rfl, rfl⟩)); (case hc => (intro u hu; with_reducible exact Calls.in_below hu (srightOk_any _ _ _ _ _ _))); (intro K hK; go_simp; refine hK _ ?_; clear hK K)))
        refine wpQuiet_nil ?_
        intro w' hu
        replace tt := tt.trans (hu.mono tt.size)
        replace hA := own_below hu hA
        replace hX := own_below hu hX
        obtain ⟨cc_hA, ff_hA⟩ := own_cells hA; have zz_hA := own_lt hA; have zy_hA := Nat.lt_add_right 1 (own_lt hA)
        obtain ⟨cc_hX, ff_hX⟩ := own_cells hX; have zz_hX := own_lt hX; have zy_hX := Nat.lt_add_right 1 (own_lt hX)
        clear hu
        go_wp2_with fail
        refine named (p := fun W => Code.wp _ _ _ _ W) _ ?_
        intro W hW
        (try clear cc_hA ff_hA); (try clear zz_hA zy_hA)
        (try clear cc_hX ff_hX); (try clear zz_hX zy_hX)
        have zt := tt.size
        replace tt : Below w.heap.size w W := by
          rw [← hW]
          (repeat (first | with_reducible exact tt | (with_reducible refine Below.setCell ?_ ?_ _) | (with_reducible refine Below.alloc ?_ ?_ _) | with_reducible refine Below.drew ?_)); (all_goals (first | omega | (simp <;> omega)))
        replace hA := own_eq hW (by repeat (first | exact hA | apply own_alloc))
        replace hX := own_eq hW (by repeat (first | exact hX | apply own_alloc))
        clear hW zt
        refine wp_region_quiet_below (by kernel_rfl) (by kernel_rfl) ?_
        repeat (first
          | (refine qskip rfl (fun K hK => ?_); go_simp; refine hK _ ?_; clear hK K)
          | (apply qval rfl; (case h => (intro u hu; obtain ⟨_, _⟩ := own_cells (own_below hu hA); obtain ⟨_, _⟩ := own_cells (own_below hu hX); go_simp; exact rfl)); (intro K hK; go_simp; refine hK _ ?_; clear hK K))
          | (apply qcall rfl; (case h => (intro u hu; go_simp; exact ⟨rfl, rfl⟩)); (case hc => (intro u hu; with_reducible exact Calls.in_below hu (H6'.out _))); (intro K hK; go_simp; refine hK _ ?_; clear hK K))
          | (apply qcall rfl; (case h => (intro u hu; go_simp; exact ⟨rfl, rfl⟩)); (case hc => (intro u hu; with_reducible exact Calls.in_below hu (H7'.out _))); (intro K hK; go_simp; refine hK _ ?_; clear hK K))
          | (apply qcall rfl; (case h => (intro u hu; go_simp; exact ⟨rfl, rfl⟩)); (case hc => (intro u hu; with_reducible exact Calls.in_below hu (rightIn_any _ _ _ _ _ _ _ _ _ _ _))); (intro K hK; go_simp; refine hK _ ?_; clear hK K))
          | (apply qcall rfl; (case h => (intro u hu; go_simp; exact ⟨rfl, rfl⟩)); (case hc => (intro u hu; with_reducible exact Calls.in_below hu (rightOk_any _ _ _ _ _ _))); (intro K hK; go_simp; refine hK _ ?_; clear hK K)))
        refine wpQuiet_nil ?_
        intro w' hu
        replace tt := tt.trans (hu.mono tt.size)
        replace hA := own_below hu hA
        replace hX := own_below hu hX
        obtain ⟨cc_hA, ff_hA⟩ := own_cells hA; have zz_hA := own_lt hA; have zy_hA := Nat.lt_add_right 1 (own_lt hA)
        obtain ⟨cc_hX, ff_hX⟩ := own_cells hX; have zz_hX := own_lt hX; have zy_hX := Nat.lt_add_right 1 (own_lt hX)
        clear hu
        go_wp2_with fail
        go_ret
        exact ⟨rfl, tt⟩
end Go.Proofs.Ytccghhfiidodnaa
