/- The walk of the law FnRightForm, on drawn rights. No condition. -/
import Derived.Test.YtccghhfiidodnaaDrawRgt2
import Derived.Test.YtccghhfiidodnaaRgtPure
namespace Go.Proofs.Ytccghhfiidodnaa
open Go.RowKit
set_option linter.unusedVariables false

theorem IsRow.len_le' {k : IntKind} {w : World} {a : Option Addr} {len cap : Nat} {z : List Int} (h : IsRow k w a len cap z) : len ≤ 9223372036854775807 := by
  rcases h with ⟨_, rfl, _, _⟩ | ⟨_, _, h1, h2, _⟩
  · omega
  · unfold maxLen at h2; omega
set_option maxHeartbeats 4000000 in
theorem fnRightForm_walk (w : World) (a : Option Addr) (len cap : Nat) (z : List Int) (hr : IsRow .u8 w a len cap z) :
    Calls Try.prog 4 #[.slice a len cap] w fun e w' => e = .returned (.bool true) ∧ Below w.heap.size w w' := by
  have t0 : Below w.heap.size w w := Below.refl _ _
  by_cases hl : 1048576 < len
  · go_enter Try.func4, Try.ntmps4
    go_wp2_with fail
    go_ret
    exact ⟨rfl, t0⟩
  go_enter Try.func4, Try.ntmps4
  go_wp2_with fail
  refine (drawRightOk_any _ _ _ _ _ hr).mono ?_
  rintro e w1 ⟨ta, va, ra, wa, ka, rfl, tt⟩
  clear hr t0 hl
  have hA := own_new w1 (.cells #[.int .i64 ta, .int .i64 va, .bool ra, .bool wa, .bool ka] 25)
  cases e1 : rgtOk ta va ra wa ka
  · go_wp2_with (first | (go_at_call 15; refine (rightOk_any _ _ _ _ _ _).mono ?_; rintro e w' ⟨rfl, hb⟩; (try clear cc_hA ff_hA); (try clear zz_hA zy_hA); have zt := tt.size; (replace tt : Below w.heap.size w w' := by (refine Below.trans ?_ (hb.mono ?_)); (all_goals (repeat (first | with_reducible exact tt | (with_reducible refine Below.setCell ?_ ?_ _) | (with_reducible refine Below.alloc ?_ ?_ _) | with_reducible refine Below.drew ?_)); (all_goals (first | omega | (simp <;> omega))))); clear zt; replace hA := own_below hb (by repeat (first | exact hA | apply own_alloc)); obtain ⟨cc_hA, ff_hA⟩ := own_cells hA; have zz_hA := own_lt hA; have zy_hA := Nat.lt_add_right 1 (own_lt hA); clear hb) | (go_at_call 16; refine (srightOk_any _ _ _ _ _ _).mono ?_; rintro e w' ⟨rfl, hb⟩; (try clear cc_hA ff_hA); (try clear zz_hA zy_hA); have zt := tt.size; (replace tt : Below w.heap.size w w' := by (refine Below.trans ?_ (hb.mono ?_)); (all_goals (repeat (first | with_reducible exact tt | (with_reducible refine Below.setCell ?_ ?_ _) | (with_reducible refine Below.alloc ?_ ?_ _) | with_reducible refine Below.drew ?_)); (all_goals (first | omega | (simp <;> omega))))); clear zt; replace hA := own_below hb (by repeat (first | exact hA | apply own_alloc)); obtain ⟨cc_hA, ff_hA⟩ := own_cells hA; have zz_hA := own_lt hA; have zy_hA := Nat.lt_add_right 1 (own_lt hA); clear hb))
    all_goals
      go_ret
      exact ⟨rfl, tt⟩
  rcases rgtOk_cases e1 with ⟨rfl, rfl, rfl, rfl, rfl⟩ | ⟨h1, h2, h3, h4, h5⟩
  · have n1 : rgtOk 0 0 false false true = false := by decide
    have n2 : rgtOk 9 0 false false false = false := by decide
    have n3 : rgtOk 0 6 false false false = false := by decide
    go_wp2_with fail
    refine (rightOk_any _ _ _ _ _ _).mono ?_
    rintro e w' ⟨rfl, hb⟩
    (try clear cc_hA ff_hA); (try clear zz_hA zy_hA)
    have zt := tt.size
    replace tt : Below w.heap.size w w' := by (refine Below.trans ?_ (hb.mono ?_)); (all_goals (repeat (first | with_reducible exact tt | (with_reducible refine Below.setCell ?_ ?_ _) | (with_reducible refine Below.alloc ?_ ?_ _) | with_reducible refine Below.drew ?_)); (all_goals (first | omega | (simp <;> omega))))
    clear zt
    replace hA := own_below hb (by repeat (first | exact hA | apply own_alloc))
    obtain ⟨cc_hA, ff_hA⟩ := own_cells hA; have zz_hA := own_lt hA; have zy_hA := Nat.lt_add_right 1 (own_lt hA)
    clear hb
    go_wp2_with fail
    refine (srightOk_any _ _ _ _ _ _).mono ?_
    rintro e w' ⟨rfl, hb⟩
    (try clear cc_hA ff_hA); (try clear zz_hA zy_hA)
    have zt := tt.size
    replace tt : Below w.heap.size w w' := by (refine Below.trans ?_ (hb.mono ?_)); (all_goals (repeat (first | with_reducible exact tt | (with_reducible refine Below.setCell ?_ ?_ _) | (with_reducible refine Below.alloc ?_ ?_ _) | with_reducible refine Below.drew ?_)); (all_goals (first | omega | (simp <;> omega))))
    clear zt
    replace hA := own_below hb (by repeat (first | exact hA | apply own_alloc))
    obtain ⟨cc_hA, ff_hA⟩ := own_cells hA; have zz_hA := own_lt hA; have zy_hA := Nat.lt_add_right 1 (own_lt hA)
    clear hb
    go_wp2_with fail
    have hP := own_alloc (own_alloc (own_new w' (.cells #[.int .i64 0, .int .i64 0, .bool false, .bool false, .bool true] 25)) (.cells #[.int .i64 9, .int .i64 0, .bool false, .bool false, .bool false] 25)) (.cells #[.int .i64 0, .int .i64 6, .bool false, .bool false, .bool false] 25)
    have hQ := own_alloc (own_new (w'.alloc (.cells #[.int .i64 0, .int .i64 0, .bool false, .bool false, .bool true] 25)) (.cells #[.int .i64 9, .int .i64 0, .bool false, .bool false, .bool false] 25)) (.cells #[.int .i64 0, .int .i64 6, .bool false, .bool false, .bool false] 25)
    have hR := own_new ((w'.alloc (.cells #[.int .i64 0, .int .i64 0, .bool false, .bool false, .bool true] 25)).alloc (.cells #[.int .i64 9, .int .i64 0, .bool false, .bool false, .bool false] 25)) (.cells #[.int .i64 0, .int .i64 6, .bool false, .bool false, .bool false] 25)
    simp only [World.size_alloc] at hQ hR
    refine named (p := fun W => Code.wp _ _ _ _ W) _ ?_
    intro W hW
    (try clear cc_hA ff_hA); (try clear zz_hA zy_hA)
    (try clear cc_hP ff_hP); (try clear zz_hP zy_hP)
    (try clear cc_hQ ff_hQ); (try clear zz_hQ zy_hQ)
    (try clear cc_hR ff_hR); (try clear zz_hR zy_hR)
    have zt := tt.size
    replace tt : Below w.heap.size w W := by
      rw [← hW]
      (repeat (first | with_reducible exact tt | (with_reducible refine Below.setCell ?_ ?_ _) | (with_reducible refine Below.alloc ?_ ?_ _) | with_reducible refine Below.drew ?_)); (all_goals (first | omega | (simp <;> omega)))
    replace hA := own_eq hW (by repeat (first | exact hA | apply own_alloc))
    replace hP := own_eq hW (by repeat (first | exact hP | apply own_alloc))
    replace hQ := own_eq hW (by repeat (first | exact hQ | apply own_alloc))
    replace hR := own_eq hW (by repeat (first | exact hR | apply own_alloc))
    clear hW zt
    refine wp_region_quiet_below (by kernel_rfl) (by kernel_rfl) ?_
    repeat (first
      | (refine qskip rfl (fun K hK => ?_); go_simp; refine hK _ ?_; clear hK K)
      | (apply qval rfl; (case h => (intro u hu; obtain ⟨_, _⟩ := own_cells (own_below hu hA); obtain ⟨_, _⟩ := own_cells (own_below hu hP); obtain ⟨_, _⟩ := own_cells (own_below hu hQ); obtain ⟨_, _⟩ := own_cells (own_below hu hR); go_simp; exact rfl)); (intro K hK; go_simp; refine hK _ ?_; clear hK K))
      | (apply qcall rfl; (case h => (intro u hu; go_simp; exact ⟨rfl, rfl⟩)); (case hc => (intro u hu; with_reducible exact Calls.in_below hu (rightOk_any _ _ _ _ _ _))); (intro K hK; go_simp; refine hK _ ?_; clear hK K)))
    refine wpQuiet_nil ?_
    intro w' hu
    replace tt := tt.trans (hu.mono tt.size)
    replace hA := own_below hu hA
    replace hP := own_below hu hP
    replace hQ := own_below hu hQ
    replace hR := own_below hu hR
    obtain ⟨cc_hA, ff_hA⟩ := own_cells hA; have zz_hA := own_lt hA; have zy_hA := Nat.lt_add_right 1 (own_lt hA)
    obtain ⟨cc_hP, ff_hP⟩ := own_cells hP; have zz_hP := own_lt hP; have zy_hP := Nat.lt_add_right 1 (own_lt hP)
    obtain ⟨cc_hQ, ff_hQ⟩ := own_cells hQ; have zz_hQ := own_lt hQ; have zy_hQ := Nat.lt_add_right 1 (own_lt hQ)
    obtain ⟨cc_hR, ff_hR⟩ := own_cells hR; have zz_hR := own_lt hR; have zy_hR := Nat.lt_add_right 1 (own_lt hR)
    clear hu
    go_wp2_with fail
    go_ret
    exact ⟨rfl, tt⟩
  · have h6 : 0 < ta := by omega
    cases wa
    · cases ka
      · have n1 : rgtOk ta va ra false true = true := by exact rgtOk_some h1 h2 h3 h4 rfl
        have n2 : rgtOk 9 va ra false false = false := by simp [rgtOk, rgtNull, inB]
        have n3 : rgtOk ta 6 ra false false = false := by simp [rgtOk, rgtNull, inB]
        clear h2 h3 h4 h5
        go_wp2_with fail
        refine (rightOk_any _ _ _ _ _ _).mono ?_
        rintro e w' ⟨rfl, hb⟩
        (try clear cc_hA ff_hA); (try clear zz_hA zy_hA)
        have zt := tt.size
        replace tt : Below w.heap.size w w' := by (refine Below.trans ?_ (hb.mono ?_)); (all_goals (repeat (first | with_reducible exact tt | (with_reducible refine Below.setCell ?_ ?_ _) | (with_reducible refine Below.alloc ?_ ?_ _) | with_reducible refine Below.drew ?_)); (all_goals (first | omega | (simp <;> omega))))
        clear zt
        replace hA := own_below hb (by repeat (first | exact hA | apply own_alloc))
        obtain ⟨cc_hA, ff_hA⟩ := own_cells hA; have zz_hA := own_lt hA; have zy_hA := Nat.lt_add_right 1 (own_lt hA)
        clear hb
        go_wp2_with fail
        refine (srightOk_any _ _ _ _ _ _).mono ?_
        rintro e w' ⟨rfl, hb⟩
        (try clear cc_hA ff_hA); (try clear zz_hA zy_hA)
        have zt := tt.size
        replace tt : Below w.heap.size w w' := by (refine Below.trans ?_ (hb.mono ?_)); (all_goals (repeat (first | with_reducible exact tt | (with_reducible refine Below.setCell ?_ ?_ _) | (with_reducible refine Below.alloc ?_ ?_ _) | with_reducible refine Below.drew ?_)); (all_goals (first | omega | (simp <;> omega))))
        clear zt
        replace hA := own_below hb (by repeat (first | exact hA | apply own_alloc))
        obtain ⟨cc_hA, ff_hA⟩ := own_cells hA; have zz_hA := own_lt hA; have zy_hA := Nat.lt_add_right 1 (own_lt hA)
        clear hb
        go_wp2_with fail
        have hP := own_alloc (own_alloc (own_new w' (.cells #[.int .i64 ta, .int .i64 va, .bool ra, .bool false, .bool true] 25)) (.cells #[.int .i64 9, .int .i64 va, .bool ra, .bool false, .bool false] 25)) (.cells #[.int .i64 ta, .int .i64 6, .bool ra, .bool false, .bool false] 25)
        have hQ := own_alloc (own_new (w'.alloc (.cells #[.int .i64 ta, .int .i64 va, .bool ra, .bool false, .bool true] 25)) (.cells #[.int .i64 9, .int .i64 va, .bool ra, .bool false, .bool false] 25)) (.cells #[.int .i64 ta, .int .i64 6, .bool ra, .bool false, .bool false] 25)
        have hR := own_new ((w'.alloc (.cells #[.int .i64 ta, .int .i64 va, .bool ra, .bool false, .bool true] 25)).alloc (.cells #[.int .i64 9, .int .i64 va, .bool ra, .bool false, .bool false] 25)) (.cells #[.int .i64 ta, .int .i64 6, .bool ra, .bool false, .bool false] 25)
        simp only [World.size_alloc] at hQ hR
        refine named (p := fun W => Code.wp _ _ _ _ W) _ ?_
        intro W hW
        (try clear cc_hA ff_hA); (try clear zz_hA zy_hA)
        (try clear cc_hP ff_hP); (try clear zz_hP zy_hP)
        (try clear cc_hQ ff_hQ); (try clear zz_hQ zy_hQ)
        (try clear cc_hR ff_hR); (try clear zz_hR zy_hR)
        have zt := tt.size
        replace tt : Below w.heap.size w W := by
          rw [← hW]
          (repeat (first | with_reducible exact tt | (with_reducible refine Below.setCell ?_ ?_ _) | (with_reducible refine Below.alloc ?_ ?_ _) | with_reducible refine Below.drew ?_)); (all_goals (first | omega | (simp <;> omega)))
        replace hA := own_eq hW (by repeat (first | exact hA | apply own_alloc))
        replace hP := own_eq hW (by repeat (first | exact hP | apply own_alloc))
        replace hQ := own_eq hW (by repeat (first | exact hQ | apply own_alloc))
        replace hR := own_eq hW (by repeat (first | exact hR | apply own_alloc))
        clear hW zt
        refine wp_region_quiet_below (by kernel_rfl) (by kernel_rfl) ?_
        repeat (first
          | (refine qskip rfl (fun K hK => ?_); go_simp; refine hK _ ?_; clear hK K)
          | (apply qval rfl; (case h => (intro u hu; obtain ⟨_, _⟩ := own_cells (own_below hu hA); obtain ⟨_, _⟩ := own_cells (own_below hu hP); obtain ⟨_, _⟩ := own_cells (own_below hu hQ); obtain ⟨_, _⟩ := own_cells (own_below hu hR); go_simp; exact rfl)); (intro K hK; go_simp; refine hK _ ?_; clear hK K))
          | (apply qcall rfl; (case h => (intro u hu; go_simp; exact ⟨rfl, rfl⟩)); (case hc => (intro u hu; with_reducible exact Calls.in_below hu (rightOk_any _ _ _ _ _ _))); (intro K hK; go_simp; refine hK _ ?_; clear hK K)))
        refine wpQuiet_nil ?_
        intro w' hu
        replace tt := tt.trans (hu.mono tt.size)
        replace hA := own_below hu hA
        replace hP := own_below hu hP
        replace hQ := own_below hu hQ
        replace hR := own_below hu hR
        obtain ⟨cc_hA, ff_hA⟩ := own_cells hA; have zz_hA := own_lt hA; have zy_hA := Nat.lt_add_right 1 (own_lt hA)
        obtain ⟨cc_hP, ff_hP⟩ := own_cells hP; have zz_hP := own_lt hP; have zy_hP := Nat.lt_add_right 1 (own_lt hP)
        obtain ⟨cc_hQ, ff_hQ⟩ := own_cells hQ; have zz_hQ := own_lt hQ; have zy_hQ := Nat.lt_add_right 1 (own_lt hQ)
        obtain ⟨cc_hR, ff_hR⟩ := own_cells hR; have zz_hR := own_lt hR; have zy_hR := Nat.lt_add_right 1 (own_lt hR)
        clear hu
        go_wp2_with fail
        go_ret
        exact ⟨rfl, tt⟩
      · have n1 : rgtOk ta va ra false true = true := by exact rgtOk_some h1 h2 h3 h4 rfl
        have n2 : rgtOk 9 va ra false true = false := by simp [rgtOk, rgtNull, inB]
        have n3 : rgtOk ta 6 ra false true = false := by simp [rgtOk, rgtNull, inB]
        clear h2 h3 h4 h5
        go_wp2_with fail
        refine (rightOk_any _ _ _ _ _ _).mono ?_
        rintro e w' ⟨rfl, hb⟩
        (try clear cc_hA ff_hA); (try clear zz_hA zy_hA)
        have zt := tt.size
        replace tt : Below w.heap.size w w' := by (refine Below.trans ?_ (hb.mono ?_)); (all_goals (repeat (first | with_reducible exact tt | (with_reducible refine Below.setCell ?_ ?_ _) | (with_reducible refine Below.alloc ?_ ?_ _) | with_reducible refine Below.drew ?_)); (all_goals (first | omega | (simp <;> omega))))
        clear zt
        replace hA := own_below hb (by repeat (first | exact hA | apply own_alloc))
        obtain ⟨cc_hA, ff_hA⟩ := own_cells hA; have zz_hA := own_lt hA; have zy_hA := Nat.lt_add_right 1 (own_lt hA)
        clear hb
        go_wp2_with fail
        refine (srightOk_any _ _ _ _ _ _).mono ?_
        rintro e w' ⟨rfl, hb⟩
        (try clear cc_hA ff_hA); (try clear zz_hA zy_hA)
        have zt := tt.size
        replace tt : Below w.heap.size w w' := by (refine Below.trans ?_ (hb.mono ?_)); (all_goals (repeat (first | with_reducible exact tt | (with_reducible refine Below.setCell ?_ ?_ _) | (with_reducible refine Below.alloc ?_ ?_ _) | with_reducible refine Below.drew ?_)); (all_goals (first | omega | (simp <;> omega))))
        clear zt
        replace hA := own_below hb (by repeat (first | exact hA | apply own_alloc))
        obtain ⟨cc_hA, ff_hA⟩ := own_cells hA; have zz_hA := own_lt hA; have zy_hA := Nat.lt_add_right 1 (own_lt hA)
        clear hb
        go_wp2_with fail
        have hP := own_alloc (own_alloc (own_new w' (.cells #[.int .i64 ta, .int .i64 va, .bool ra, .bool false, .bool true] 25)) (.cells #[.int .i64 9, .int .i64 va, .bool ra, .bool false, .bool true] 25)) (.cells #[.int .i64 ta, .int .i64 6, .bool ra, .bool false, .bool true] 25)
        have hQ := own_alloc (own_new (w'.alloc (.cells #[.int .i64 ta, .int .i64 va, .bool ra, .bool false, .bool true] 25)) (.cells #[.int .i64 9, .int .i64 va, .bool ra, .bool false, .bool true] 25)) (.cells #[.int .i64 ta, .int .i64 6, .bool ra, .bool false, .bool true] 25)
        have hR := own_new ((w'.alloc (.cells #[.int .i64 ta, .int .i64 va, .bool ra, .bool false, .bool true] 25)).alloc (.cells #[.int .i64 9, .int .i64 va, .bool ra, .bool false, .bool true] 25)) (.cells #[.int .i64 ta, .int .i64 6, .bool ra, .bool false, .bool true] 25)
        simp only [World.size_alloc] at hQ hR
        refine named (p := fun W => Code.wp _ _ _ _ W) _ ?_
        intro W hW
        (try clear cc_hA ff_hA); (try clear zz_hA zy_hA)
        (try clear cc_hP ff_hP); (try clear zz_hP zy_hP)
        (try clear cc_hQ ff_hQ); (try clear zz_hQ zy_hQ)
        (try clear cc_hR ff_hR); (try clear zz_hR zy_hR)
        have zt := tt.size
        replace tt : Below w.heap.size w W := by
          rw [← hW]
          (repeat (first | with_reducible exact tt | (with_reducible refine Below.setCell ?_ ?_ _) | (with_reducible refine Below.alloc ?_ ?_ _) | with_reducible refine Below.drew ?_)); (all_goals (first | omega | (simp <;> omega)))
        replace hA := own_eq hW (by repeat (first | exact hA | apply own_alloc))
        replace hP := own_eq hW (by repeat (first | exact hP | apply own_alloc))
        replace hQ := own_eq hW (by repeat (first | exact hQ | apply own_alloc))
        replace hR := own_eq hW (by repeat (first | exact hR | apply own_alloc))
        clear hW zt
        refine wp_region_quiet_below (by kernel_rfl) (by kernel_rfl) ?_
        repeat (first
          | (refine qskip rfl (fun K hK => ?_); go_simp; refine hK _ ?_; clear hK K)
          | (apply qval rfl; (case h => (intro u hu; obtain ⟨_, _⟩ := own_cells (own_below hu hA); obtain ⟨_, _⟩ := own_cells (own_below hu hP); obtain ⟨_, _⟩ := own_cells (own_below hu hQ); obtain ⟨_, _⟩ := own_cells (own_below hu hR); go_simp; exact rfl)); (intro K hK; go_simp; refine hK _ ?_; clear hK K))
          | (apply qcall rfl; (case h => (intro u hu; go_simp; exact ⟨rfl, rfl⟩)); (case hc => (intro u hu; with_reducible exact Calls.in_below hu (rightOk_any _ _ _ _ _ _))); (intro K hK; go_simp; refine hK _ ?_; clear hK K)))
        refine wpQuiet_nil ?_
        intro w' hu
        replace tt := tt.trans (hu.mono tt.size)
        replace hA := own_below hu hA
        replace hP := own_below hu hP
        replace hQ := own_below hu hQ
        replace hR := own_below hu hR
        obtain ⟨cc_hA, ff_hA⟩ := own_cells hA; have zz_hA := own_lt hA; have zy_hA := Nat.lt_add_right 1 (own_lt hA)
        obtain ⟨cc_hP, ff_hP⟩ := own_cells hP; have zz_hP := own_lt hP; have zy_hP := Nat.lt_add_right 1 (own_lt hP)
        obtain ⟨cc_hQ, ff_hQ⟩ := own_cells hQ; have zz_hQ := own_lt hQ; have zy_hQ := Nat.lt_add_right 1 (own_lt hQ)
        obtain ⟨cc_hR, ff_hR⟩ := own_cells hR; have zz_hR := own_lt hR; have zy_hR := Nat.lt_add_right 1 (own_lt hR)
        clear hu
        go_wp2_with fail
        go_ret
        exact ⟨rfl, tt⟩
    · cases ka
      · have n1 : rgtOk ta va ra true true = false := by simp [rgtOk, rgtNull]
        have n2 : rgtOk 9 va ra true false = false := by simp [rgtOk, rgtNull, inB]
        have n3 : rgtOk ta 6 ra true false = false := by simp [rgtOk, rgtNull, inB]
        clear h2 h3 h4 h5
        go_wp2_with fail
        refine (rightOk_any _ _ _ _ _ _).mono ?_
        rintro e w' ⟨rfl, hb⟩
        (try clear cc_hA ff_hA); (try clear zz_hA zy_hA)
        have zt := tt.size
        replace tt : Below w.heap.size w w' := by (refine Below.trans ?_ (hb.mono ?_)); (all_goals (repeat (first | with_reducible exact tt | (with_reducible refine Below.setCell ?_ ?_ _) | (with_reducible refine Below.alloc ?_ ?_ _) | with_reducible refine Below.drew ?_)); (all_goals (first | omega | (simp <;> omega))))
        clear zt
        replace hA := own_below hb (by repeat (first | exact hA | apply own_alloc))
        obtain ⟨cc_hA, ff_hA⟩ := own_cells hA; have zz_hA := own_lt hA; have zy_hA := Nat.lt_add_right 1 (own_lt hA)
        clear hb
        go_wp2_with fail
        refine (srightOk_any _ _ _ _ _ _).mono ?_
        rintro e w' ⟨rfl, hb⟩
        (try clear cc_hA ff_hA); (try clear zz_hA zy_hA)
        have zt := tt.size
        replace tt : Below w.heap.size w w' := by (refine Below.trans ?_ (hb.mono ?_)); (all_goals (repeat (first | with_reducible exact tt | (with_reducible refine Below.setCell ?_ ?_ _) | (with_reducible refine Below.alloc ?_ ?_ _) | with_reducible refine Below.drew ?_)); (all_goals (first | omega | (simp <;> omega))))
        clear zt
        replace hA := own_below hb (by repeat (first | exact hA | apply own_alloc))
        obtain ⟨cc_hA, ff_hA⟩ := own_cells hA; have zz_hA := own_lt hA; have zy_hA := Nat.lt_add_right 1 (own_lt hA)
        clear hb
        go_wp2_with fail
        have hP := own_alloc (own_alloc (own_new w' (.cells #[.int .i64 ta, .int .i64 va, .bool ra, .bool true, .bool true] 25)) (.cells #[.int .i64 9, .int .i64 va, .bool ra, .bool true, .bool false] 25)) (.cells #[.int .i64 ta, .int .i64 6, .bool ra, .bool true, .bool false] 25)
        have hQ := own_alloc (own_new (w'.alloc (.cells #[.int .i64 ta, .int .i64 va, .bool ra, .bool true, .bool true] 25)) (.cells #[.int .i64 9, .int .i64 va, .bool ra, .bool true, .bool false] 25)) (.cells #[.int .i64 ta, .int .i64 6, .bool ra, .bool true, .bool false] 25)
        have hR := own_new ((w'.alloc (.cells #[.int .i64 ta, .int .i64 va, .bool ra, .bool true, .bool true] 25)).alloc (.cells #[.int .i64 9, .int .i64 va, .bool ra, .bool true, .bool false] 25)) (.cells #[.int .i64 ta, .int .i64 6, .bool ra, .bool true, .bool false] 25)
        simp only [World.size_alloc] at hQ hR
        refine named (p := fun W => Code.wp _ _ _ _ W) _ ?_
        intro W hW
        (try clear cc_hA ff_hA); (try clear zz_hA zy_hA)
        (try clear cc_hP ff_hP); (try clear zz_hP zy_hP)
        (try clear cc_hQ ff_hQ); (try clear zz_hQ zy_hQ)
        (try clear cc_hR ff_hR); (try clear zz_hR zy_hR)
        have zt := tt.size
        replace tt : Below w.heap.size w W := by
          rw [← hW]
          (repeat (first | with_reducible exact tt | (with_reducible refine Below.setCell ?_ ?_ _) | (with_reducible refine Below.alloc ?_ ?_ _) | with_reducible refine Below.drew ?_)); (all_goals (first | omega | (simp <;> omega)))
        replace hA := own_eq hW (by repeat (first | exact hA | apply own_alloc))
        replace hP := own_eq hW (by repeat (first | exact hP | apply own_alloc))
        replace hQ := own_eq hW (by repeat (first | exact hQ | apply own_alloc))
        replace hR := own_eq hW (by repeat (first | exact hR | apply own_alloc))
        clear hW zt
        refine wp_region_quiet_below (by kernel_rfl) (by kernel_rfl) ?_
        repeat (first
          | (refine qskip rfl (fun K hK => ?_); go_simp; refine hK _ ?_; clear hK K)
          | (apply qval rfl; (case h => (intro u hu; obtain ⟨_, _⟩ := own_cells (own_below hu hA); obtain ⟨_, _⟩ := own_cells (own_below hu hP); obtain ⟨_, _⟩ := own_cells (own_below hu hQ); obtain ⟨_, _⟩ := own_cells (own_below hu hR); go_simp; exact rfl)); (intro K hK; go_simp; refine hK _ ?_; clear hK K))
          | (apply qcall rfl; (case h => (intro u hu; go_simp; exact ⟨rfl, rfl⟩)); (case hc => (intro u hu; with_reducible exact Calls.in_below hu (rightOk_any _ _ _ _ _ _))); (intro K hK; go_simp; refine hK _ ?_; clear hK K)))
        refine wpQuiet_nil ?_
        intro w' hu
        replace tt := tt.trans (hu.mono tt.size)
        replace hA := own_below hu hA
        replace hP := own_below hu hP
        replace hQ := own_below hu hQ
        replace hR := own_below hu hR
        obtain ⟨cc_hA, ff_hA⟩ := own_cells hA; have zz_hA := own_lt hA; have zy_hA := Nat.lt_add_right 1 (own_lt hA)
        obtain ⟨cc_hP, ff_hP⟩ := own_cells hP; have zz_hP := own_lt hP; have zy_hP := Nat.lt_add_right 1 (own_lt hP)
        obtain ⟨cc_hQ, ff_hQ⟩ := own_cells hQ; have zz_hQ := own_lt hQ; have zy_hQ := Nat.lt_add_right 1 (own_lt hQ)
        obtain ⟨cc_hR, ff_hR⟩ := own_cells hR; have zz_hR := own_lt hR; have zy_hR := Nat.lt_add_right 1 (own_lt hR)
        clear hu
        go_wp2_with fail
        go_ret
        exact ⟨rfl, tt⟩
      · exact absurd h5 (by decide)
end Go.Proofs.Ytccghhfiidodnaa
