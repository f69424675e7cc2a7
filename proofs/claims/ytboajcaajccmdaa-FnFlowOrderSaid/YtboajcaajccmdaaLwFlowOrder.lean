/- The walk of the law FnFlowOrder, on drawn labels. No condition. -/
import Derived.Test.YtboajcaajccmdaaDrawLab2
import Derived.Test.YtboajcaajccmdaaLabPure
namespace Go.Proofs.Ytboajcaajccmdaa
open Go.RowKit
set_option linter.unusedVariables false

set_option maxHeartbeats 2000000 in
theorem fnFlowOrder_walk (w : World) (a : Option Addr) (len cap : Nat) (z : List Int) (hr : IsRow .u8 w a len cap z) (a' : Option Addr) (len' cap' : Nat) (z' : List Int) (hr' : IsRow .u8 w a' len' cap' z') :
    Calls Try.prog 12 #[.slice a len cap, .slice a' len' cap'] w fun e w' => e = .returned (.bool true) ∧ Below w.heap.size w w' := by
  have t0 : Below w.heap.size w w := Below.refl _ _
  by_cases hl : 1048576 < len
  · go_enter Try.func12, Try.ntmps12
    go_wp2_with fail
    go_ret
    exact ⟨rfl, t0⟩
  have hz' := hr'.len_le
  clear hr'
  by_cases hl' : 1048576 < len'
  · go_enter Try.func12, Try.ntmps12
    go_wp2_with fail
    go_ret
    exact ⟨rfl, t0⟩
  go_enter Try.func12, Try.ntmps12
  go_wp2_with fail
  refine (drawLabelFlow_any _ _ _ _ _ hr).mono ?_
  rintro e w1 ⟨s1, v1, s2, v2, rfl, tt⟩
  clear hr t0 hl
  have hA := own_alloc (own_new w1 (.cells #[.int .i64 s1, .int .i64 v1] 25)) (.cells #[.int .i64 s2, .int .i64 v2] 25)
  have hB := own_new (w1.alloc (.cells #[.int .i64 s1, .int .i64 v1] 25)) (.cells #[.int .i64 s2, .int .i64 v2] 25)
  simp only [World.size_alloc] at hB
  cases e1 : lblOk s1 v1
  · have f1 : flowB s1 v1 s2 v2 = false := by simp [flowB, e1]
    go_wp2_with (first | (go_at_call 17; refine (labelFlow_any _ _ _ _ _).mono ?_; rintro e w' ⟨rfl, hb⟩; (try clear cc_hA ff_hA); (try clear zz_hA zy_hA); (try clear cc_hB ff_hB); (try clear zz_hB zy_hB); have zt := tt.size; (replace tt : Below w.heap.size w w' := by (refine Below.trans ?_ (hb.mono ?_)); (all_goals (repeat (first | exact tt | (refine Below.alloc ?_ ?_ _) | (refine Below.setCell ?_ ?_ _) | refine Below.drew ?_)); (all_goals (first | omega | (simp <;> omega))))); clear zt; replace hA := own_below hb (by repeat (first | exact hA | apply own_alloc)); replace hB := own_below hb (by repeat (first | exact hB | apply own_alloc)); obtain ⟨cc_hA, ff_hA⟩ := own_cells hA; have zz_hA := own_lt hA; have zy_hA := Nat.lt_add_right 1 (own_lt hA); obtain ⟨cc_hB, ff_hB⟩ := own_cells hB; have zz_hB := own_lt hB; have zy_hB := Nat.lt_add_right 1 (own_lt hB); clear hb) | (go_at_call 15; refine (slabelFlow_any _ _ _ _ _).mono ?_; rintro e w' ⟨rfl, hb⟩; (try clear cc_hA ff_hA); (try clear zz_hA zy_hA); (try clear cc_hB ff_hB); (try clear zz_hB zy_hB); have zt := tt.size; (replace tt : Below w.heap.size w w' := by (refine Below.trans ?_ (hb.mono ?_)); (all_goals (repeat (first | exact tt | (refine Below.alloc ?_ ?_ _) | (refine Below.setCell ?_ ?_ _) | refine Below.drew ?_)); (all_goals (first | omega | (simp <;> omega))))); clear zt; replace hA := own_below hb (by repeat (first | exact hA | apply own_alloc)); replace hB := own_below hb (by repeat (first | exact hB | apply own_alloc)); obtain ⟨cc_hA, ff_hA⟩ := own_cells hA; have zz_hA := own_lt hA; have zy_hA := Nat.lt_add_right 1 (own_lt hA); obtain ⟨cc_hB, ff_hB⟩ := own_cells hB; have zz_hB := own_lt hB; have zy_hB := Nat.lt_add_right 1 (own_lt hB); clear hb) | (go_at_call 26; refine (slabelOk_any _ _ _).mono ?_; rintro e w' ⟨rfl, hb⟩; (try clear cc_hA ff_hA); (try clear zz_hA zy_hA); (try clear cc_hB ff_hB); (try clear zz_hB zy_hB); have zt := tt.size; (replace tt : Below w.heap.size w w' := by (refine Below.trans ?_ (hb.mono ?_)); (all_goals (repeat (first | exact tt | (refine Below.alloc ?_ ?_ _) | (refine Below.setCell ?_ ?_ _) | refine Below.drew ?_)); (all_goals (first | omega | (simp <;> omega))))); clear zt; replace hA := own_below hb (by repeat (first | exact hA | apply own_alloc)); replace hB := own_below hb (by repeat (first | exact hB | apply own_alloc)); obtain ⟨cc_hA, ff_hA⟩ := own_cells hA; have zz_hA := own_lt hA; have zy_hA := Nat.lt_add_right 1 (own_lt hA); obtain ⟨cc_hB, ff_hB⟩ := own_cells hB; have zz_hB := own_lt hB; have zy_hB := Nat.lt_add_right 1 (own_lt hB); clear hb))
    all_goals
      go_ret
      exact ⟨rfl, tt⟩
  cases e2 : lblOk s2 v2
  · have f1 : flowB s1 v1 s2 v2 = false := by simp [flowB, e2]
    go_wp2_with (first | (go_at_call 17; refine (labelFlow_any _ _ _ _ _).mono ?_; rintro e w' ⟨rfl, hb⟩; (try clear cc_hA ff_hA); (try clear zz_hA zy_hA); (try clear cc_hB ff_hB); (try clear zz_hB zy_hB); have zt := tt.size; (replace tt : Below w.heap.size w w' := by (refine Below.trans ?_ (hb.mono ?_)); (all_goals (repeat (first | exact tt | (refine Below.alloc ?_ ?_ _) | (refine Below.setCell ?_ ?_ _) | refine Below.drew ?_)); (all_goals (first | omega | (simp <;> omega))))); clear zt; replace hA := own_below hb (by repeat (first | exact hA | apply own_alloc)); replace hB := own_below hb (by repeat (first | exact hB | apply own_alloc)); obtain ⟨cc_hA, ff_hA⟩ := own_cells hA; have zz_hA := own_lt hA; have zy_hA := Nat.lt_add_right 1 (own_lt hA); obtain ⟨cc_hB, ff_hB⟩ := own_cells hB; have zz_hB := own_lt hB; have zy_hB := Nat.lt_add_right 1 (own_lt hB); clear hb) | (go_at_call 15; refine (slabelFlow_any _ _ _ _ _).mono ?_; rintro e w' ⟨rfl, hb⟩; (try clear cc_hA ff_hA); (try clear zz_hA zy_hA); (try clear cc_hB ff_hB); (try clear zz_hB zy_hB); have zt := tt.size; (replace tt : Below w.heap.size w w' := by (refine Below.trans ?_ (hb.mono ?_)); (all_goals (repeat (first | exact tt | (refine Below.alloc ?_ ?_ _) | (refine Below.setCell ?_ ?_ _) | refine Below.drew ?_)); (all_goals (first | omega | (simp <;> omega))))); clear zt; replace hA := own_below hb (by repeat (first | exact hA | apply own_alloc)); replace hB := own_below hb (by repeat (first | exact hB | apply own_alloc)); obtain ⟨cc_hA, ff_hA⟩ := own_cells hA; have zz_hA := own_lt hA; have zy_hA := Nat.lt_add_right 1 (own_lt hA); obtain ⟨cc_hB, ff_hB⟩ := own_cells hB; have zz_hB := own_lt hB; have zy_hB := Nat.lt_add_right 1 (own_lt hB); clear hb) | (go_at_call 26; refine (slabelOk_any _ _ _).mono ?_; rintro e w' ⟨rfl, hb⟩; (try clear cc_hA ff_hA); (try clear zz_hA zy_hA); (try clear cc_hB ff_hB); (try clear zz_hB zy_hB); have zt := tt.size; (replace tt : Below w.heap.size w w' := by (refine Below.trans ?_ (hb.mono ?_)); (all_goals (repeat (first | exact tt | (refine Below.alloc ?_ ?_ _) | (refine Below.setCell ?_ ?_ _) | refine Below.drew ?_)); (all_goals (first | omega | (simp <;> omega))))); clear zt; replace hA := own_below hb (by repeat (first | exact hA | apply own_alloc)); replace hB := own_below hb (by repeat (first | exact hB | apply own_alloc)); obtain ⟨cc_hA, ff_hA⟩ := own_cells hA; have zz_hA := own_lt hA; have zy_hA := Nat.lt_add_right 1 (own_lt hA); obtain ⟨cc_hB, ff_hB⟩ := own_cells hB; have zz_hB := own_lt hB; have zy_hB := Nat.lt_add_right 1 (own_lt hB); clear hb))
    all_goals
      go_ret
      exact ⟨rfl, tt⟩
  have e3 := ld_ok len'
  have tr := flow_trans e1 e2 e3
  have an := flow_antisymm e1 e2
  have rf := flow_refl e1
  by_cases E1 : s1 = s2
  · subst E1
    by_cases E2 : v1 = v2
    · subst E2
      clear tr an
      cases f2 : flowB s1 v1 ((len' : Int) % 4) ((len' : Int) / 4 % 4)
      · go_wp2_with fail
        refine (labelFlow_any _ _ _ _ _).mono ?_
        rintro e w' ⟨rfl, hb⟩
        (try clear cc_hA ff_hA); (try clear zz_hA zy_hA)
        (try clear cc_hB ff_hB); (try clear zz_hB zy_hB)
        have zt := tt.size
        replace tt : Below w.heap.size w w' := by (refine Below.trans ?_ (hb.mono ?_)); (all_goals (repeat (first | exact tt | (refine Below.alloc ?_ ?_ _) | (refine Below.setCell ?_ ?_ _) | refine Below.drew ?_)); (all_goals (first | omega | (simp <;> omega))))
        clear zt
        replace hA := own_below hb (by repeat (first | exact hA | apply own_alloc))
        replace hB := own_below hb (by repeat (first | exact hB | apply own_alloc))
        obtain ⟨cc_hA, ff_hA⟩ := own_cells hA; have zz_hA := own_lt hA; have zy_hA := Nat.lt_add_right 1 (own_lt hA)
        obtain ⟨cc_hB, ff_hB⟩ := own_cells hB; have zz_hB := own_lt hB; have zy_hB := Nat.lt_add_right 1 (own_lt hB)
        clear hb
        go_wp2_with fail
        go_wp2_with (first | (go_at_call 15; refine (slabelFlow_any _ _ _ _ _).mono ?_; rintro e w' ⟨rfl, hb⟩; (try clear cc_hA ff_hA); (try clear zz_hA zy_hA); (try clear cc_hB ff_hB); (try clear zz_hB zy_hB); have zt := tt.size; (replace tt : Below w.heap.size w w' := by (refine Below.trans ?_ (hb.mono ?_)); (all_goals (repeat (first | exact tt | (refine Below.alloc ?_ ?_ _) | (refine Below.setCell ?_ ?_ _) | refine Below.drew ?_)); (all_goals (first | omega | (simp <;> omega))))); clear zt; replace hA := own_below hb (by repeat (first | exact hA | apply own_alloc)); replace hB := own_below hb (by repeat (first | exact hB | apply own_alloc)); obtain ⟨cc_hA, ff_hA⟩ := own_cells hA; have zz_hA := own_lt hA; have zy_hA := Nat.lt_add_right 1 (own_lt hA); obtain ⟨cc_hB, ff_hB⟩ := own_cells hB; have zz_hB := own_lt hB; have zy_hB := Nat.lt_add_right 1 (own_lt hB); clear hb) | (go_at_call 26; refine (slabelOk_any _ _ _).mono ?_; rintro e w' ⟨rfl, hb⟩; (try clear cc_hA ff_hA); (try clear zz_hA zy_hA); (try clear cc_hB ff_hB); (try clear zz_hB zy_hB); have zt := tt.size; (replace tt : Below w.heap.size w w' := by (refine Below.trans ?_ (hb.mono ?_)); (all_goals (repeat (first | exact tt | (refine Below.alloc ?_ ?_ _) | (refine Below.setCell ?_ ?_ _) | refine Below.drew ?_)); (all_goals (first | omega | (simp <;> omega))))); clear zt; replace hA := own_below hb (by repeat (first | exact hA | apply own_alloc)); replace hB := own_below hb (by repeat (first | exact hB | apply own_alloc)); obtain ⟨cc_hA, ff_hA⟩ := own_cells hA; have zz_hA := own_lt hA; have zy_hA := Nat.lt_add_right 1 (own_lt hA); obtain ⟨cc_hB, ff_hB⟩ := own_cells hB; have zz_hB := own_lt hB; have zy_hB := Nat.lt_add_right 1 (own_lt hB); clear hb))
        refine (ldLabel_any len' (by omega) _).mono ?_
        rintro e w' ⟨rfl, hb⟩
        (try clear cc_hA ff_hA); (try clear zz_hA zy_hA)
        (try clear cc_hB ff_hB); (try clear zz_hB zy_hB)
        have zt := tt.size
        replace tt : Below w.heap.size w w' := by (refine Below.trans ?_ (hb.mono ?_)); (all_goals (repeat (first | exact tt | (refine Below.alloc ?_ ?_ _) | (refine Below.setCell ?_ ?_ _) | refine Below.drew ?_)); (all_goals (first | omega | (simp <;> omega))))
        clear zt
        replace hA := own_below hb (by repeat (first | exact hA | apply own_alloc))
        replace hB := own_below hb (by repeat (first | exact hB | apply own_alloc))
        obtain ⟨cc_hA, ff_hA⟩ := own_cells hA; have zz_hA := own_lt hA; have zy_hA := Nat.lt_add_right 1 (own_lt hA)
        obtain ⟨cc_hB, ff_hB⟩ := own_cells hB; have zz_hB := own_lt hB; have zy_hB := Nat.lt_add_right 1 (own_lt hB)
        clear hb
        have hC := own_new w' (.cells #[.int .i64 ((len' : Int) % 4), .int .i64 ((len' : Int) / 4 % 4)] 25)
        go_wp2_with (first | (go_at_call 17; refine (labelFlow_any _ _ _ _ _).mono ?_; rintro e w' ⟨rfl, hb⟩; (try clear cc_hA ff_hA); (try clear zz_hA zy_hA); (try clear cc_hB ff_hB); (try clear zz_hB zy_hB); (try clear cc_hC ff_hC); (try clear zz_hC zy_hC); have zt := tt.size; (replace tt : Below w.heap.size w w' := by (refine Below.trans ?_ (hb.mono ?_)); (all_goals (repeat (first | exact tt | (refine Below.alloc ?_ ?_ _) | (refine Below.setCell ?_ ?_ _) | refine Below.drew ?_)); (all_goals (first | omega | (simp <;> omega))))); clear zt; replace hA := own_below hb (by repeat (first | exact hA | apply own_alloc)); replace hB := own_below hb (by repeat (first | exact hB | apply own_alloc)); replace hC := own_below hb (by repeat (first | exact hC | apply own_alloc)); obtain ⟨cc_hA, ff_hA⟩ := own_cells hA; have zz_hA := own_lt hA; have zy_hA := Nat.lt_add_right 1 (own_lt hA); obtain ⟨cc_hB, ff_hB⟩ := own_cells hB; have zz_hB := own_lt hB; have zy_hB := Nat.lt_add_right 1 (own_lt hB); obtain ⟨cc_hC, ff_hC⟩ := own_cells hC; have zz_hC := own_lt hC; have zy_hC := Nat.lt_add_right 1 (own_lt hC); clear hb))
        refine named (p := fun W => Code.wp _ _ _ _ W) _ ?_
        intro W hW
        (try clear cc_hA ff_hA); (try clear zz_hA zy_hA)
        (try clear cc_hB ff_hB); (try clear zz_hB zy_hB)
        (try clear cc_hC ff_hC); (try clear zz_hC zy_hC)
        have zt := tt.size
        replace tt : Below w.heap.size w W := by
          rw [← hW]
          (repeat (first | exact tt | (refine Below.alloc ?_ ?_ _) | (refine Below.setCell ?_ ?_ _) | refine Below.drew ?_)); (all_goals (first | omega | (simp <;> omega)))
        replace hA := own_eq hW (by repeat (first | exact hA | apply own_alloc))
        replace hB := own_eq hW (by repeat (first | exact hB | apply own_alloc))
        replace hC := own_eq hW (by repeat (first | exact hC | apply own_alloc))
        clear hW zt
        refine wp_region_quiet_below (by kernel_rfl) (by kernel_rfl) ?_
        repeat (first
          | (refine qskip rfl (fun K hK => ?_); go_simp; refine hK _ ?_; clear hK K)
          | (apply qval rfl; (case h => (intro u hu; obtain ⟨_, _⟩ := own_cells (own_below hu hA); obtain ⟨_, _⟩ := own_cells (own_below hu hB); obtain ⟨_, _⟩ := own_cells (own_below hu hC); go_simp; exact rfl)); (intro K hK; go_simp; refine hK _ ?_; clear hK K))
          | (apply qcall rfl; (case h => (intro u hu; go_simp; exact ⟨rfl, rfl⟩)); (case hc => (intro u hu; exact Calls.in_below hu (labelFlow_any _ _ _ _ _))); (intro K hK; go_simp; refine hK _ ?_; clear hK K)))
        refine wpQuiet_nil ?_
        intro w' hu
        replace tt := tt.trans (hu.mono tt.size)
        replace hA := own_below hu hA
        replace hB := own_below hu hB
        replace hC := own_below hu hC
        obtain ⟨cc_hA, ff_hA⟩ := own_cells hA; have zz_hA := own_lt hA; have zy_hA := Nat.lt_add_right 1 (own_lt hA)
        obtain ⟨cc_hB, ff_hB⟩ := own_cells hB; have zz_hB := own_lt hB; have zy_hB := Nat.lt_add_right 1 (own_lt hB)
        obtain ⟨cc_hC, ff_hC⟩ := own_cells hC; have zz_hC := own_lt hC; have zy_hC := Nat.lt_add_right 1 (own_lt hC)
        clear hu
        go_wp2_with fail
        go_ret
        exact ⟨rfl, tt⟩
      · go_wp2_with fail
        refine (labelFlow_any _ _ _ _ _).mono ?_
        rintro e w' ⟨rfl, hb⟩
        (try clear cc_hA ff_hA); (try clear zz_hA zy_hA)
        (try clear cc_hB ff_hB); (try clear zz_hB zy_hB)
        have zt := tt.size
        replace tt : Below w.heap.size w w' := by (refine Below.trans ?_ (hb.mono ?_)); (all_goals (repeat (first | exact tt | (refine Below.alloc ?_ ?_ _) | (refine Below.setCell ?_ ?_ _) | refine Below.drew ?_)); (all_goals (first | omega | (simp <;> omega))))
        clear zt
        replace hA := own_below hb (by repeat (first | exact hA | apply own_alloc))
        replace hB := own_below hb (by repeat (first | exact hB | apply own_alloc))
        obtain ⟨cc_hA, ff_hA⟩ := own_cells hA; have zz_hA := own_lt hA; have zy_hA := Nat.lt_add_right 1 (own_lt hA)
        obtain ⟨cc_hB, ff_hB⟩ := own_cells hB; have zz_hB := own_lt hB; have zy_hB := Nat.lt_add_right 1 (own_lt hB)
        clear hb
        go_wp2_with fail
        go_wp2_with (first | (go_at_call 15; refine (slabelFlow_any _ _ _ _ _).mono ?_; rintro e w' ⟨rfl, hb⟩; (try clear cc_hA ff_hA); (try clear zz_hA zy_hA); (try clear cc_hB ff_hB); (try clear zz_hB zy_hB); have zt := tt.size; (replace tt : Below w.heap.size w w' := by (refine Below.trans ?_ (hb.mono ?_)); (all_goals (repeat (first | exact tt | (refine Below.alloc ?_ ?_ _) | (refine Below.setCell ?_ ?_ _) | refine Below.drew ?_)); (all_goals (first | omega | (simp <;> omega))))); clear zt; replace hA := own_below hb (by repeat (first | exact hA | apply own_alloc)); replace hB := own_below hb (by repeat (first | exact hB | apply own_alloc)); obtain ⟨cc_hA, ff_hA⟩ := own_cells hA; have zz_hA := own_lt hA; have zy_hA := Nat.lt_add_right 1 (own_lt hA); obtain ⟨cc_hB, ff_hB⟩ := own_cells hB; have zz_hB := own_lt hB; have zy_hB := Nat.lt_add_right 1 (own_lt hB); clear hb) | (go_at_call 26; refine (slabelOk_any _ _ _).mono ?_; rintro e w' ⟨rfl, hb⟩; (try clear cc_hA ff_hA); (try clear zz_hA zy_hA); (try clear cc_hB ff_hB); (try clear zz_hB zy_hB); have zt := tt.size; (replace tt : Below w.heap.size w w' := by (refine Below.trans ?_ (hb.mono ?_)); (all_goals (repeat (first | exact tt | (refine Below.alloc ?_ ?_ _) | (refine Below.setCell ?_ ?_ _) | refine Below.drew ?_)); (all_goals (first | omega | (simp <;> omega))))); clear zt; replace hA := own_below hb (by repeat (first | exact hA | apply own_alloc)); replace hB := own_below hb (by repeat (first | exact hB | apply own_alloc)); obtain ⟨cc_hA, ff_hA⟩ := own_cells hA; have zz_hA := own_lt hA; have zy_hA := Nat.lt_add_right 1 (own_lt hA); obtain ⟨cc_hB, ff_hB⟩ := own_cells hB; have zz_hB := own_lt hB; have zy_hB := Nat.lt_add_right 1 (own_lt hB); clear hb))
        refine (ldLabel_any len' (by omega) _).mono ?_
        rintro e w' ⟨rfl, hb⟩
        (try clear cc_hA ff_hA); (try clear zz_hA zy_hA)
        (try clear cc_hB ff_hB); (try clear zz_hB zy_hB)
        have zt := tt.size
        replace tt : Below w.heap.size w w' := by (refine Below.trans ?_ (hb.mono ?_)); (all_goals (repeat (first | exact tt | (refine Below.alloc ?_ ?_ _) | (refine Below.setCell ?_ ?_ _) | refine Below.drew ?_)); (all_goals (first | omega | (simp <;> omega))))
        clear zt
        replace hA := own_below hb (by repeat (first | exact hA | apply own_alloc))
        replace hB := own_below hb (by repeat (first | exact hB | apply own_alloc))
        obtain ⟨cc_hA, ff_hA⟩ := own_cells hA; have zz_hA := own_lt hA; have zy_hA := Nat.lt_add_right 1 (own_lt hA)
        obtain ⟨cc_hB, ff_hB⟩ := own_cells hB; have zz_hB := own_lt hB; have zy_hB := Nat.lt_add_right 1 (own_lt hB)
        clear hb
        have hC := own_new w' (.cells #[.int .i64 ((len' : Int) % 4), .int .i64 ((len' : Int) / 4 % 4)] 25)
        go_wp2_with (first | (go_at_call 17; refine (labelFlow_any _ _ _ _ _).mono ?_; rintro e w' ⟨rfl, hb⟩; (try clear cc_hA ff_hA); (try clear zz_hA zy_hA); (try clear cc_hB ff_hB); (try clear zz_hB zy_hB); (try clear cc_hC ff_hC); (try clear zz_hC zy_hC); have zt := tt.size; (replace tt : Below w.heap.size w w' := by (refine Below.trans ?_ (hb.mono ?_)); (all_goals (repeat (first | exact tt | (refine Below.alloc ?_ ?_ _) | (refine Below.setCell ?_ ?_ _) | refine Below.drew ?_)); (all_goals (first | omega | (simp <;> omega))))); clear zt; replace hA := own_below hb (by repeat (first | exact hA | apply own_alloc)); replace hB := own_below hb (by repeat (first | exact hB | apply own_alloc)); replace hC := own_below hb (by repeat (first | exact hC | apply own_alloc)); obtain ⟨cc_hA, ff_hA⟩ := own_cells hA; have zz_hA := own_lt hA; have zy_hA := Nat.lt_add_right 1 (own_lt hA); obtain ⟨cc_hB, ff_hB⟩ := own_cells hB; have zz_hB := own_lt hB; have zy_hB := Nat.lt_add_right 1 (own_lt hB); obtain ⟨cc_hC, ff_hC⟩ := own_cells hC; have zz_hC := own_lt hC; have zy_hC := Nat.lt_add_right 1 (own_lt hC); clear hb))
        refine named (p := fun W => Code.wp _ _ _ _ W) _ ?_
        intro W hW
        (try clear cc_hA ff_hA); (try clear zz_hA zy_hA)
        (try clear cc_hB ff_hB); (try clear zz_hB zy_hB)
        (try clear cc_hC ff_hC); (try clear zz_hC zy_hC)
        have zt := tt.size
        replace tt : Below w.heap.size w W := by
          rw [← hW]
          (repeat (first | exact tt | (refine Below.alloc ?_ ?_ _) | (refine Below.setCell ?_ ?_ _) | refine Below.drew ?_)); (all_goals (first | omega | (simp <;> omega)))
        replace hA := own_eq hW (by repeat (first | exact hA | apply own_alloc))
        replace hB := own_eq hW (by repeat (first | exact hB | apply own_alloc))
        replace hC := own_eq hW (by repeat (first | exact hC | apply own_alloc))
        clear hW zt
        refine wp_region_quiet_below (by kernel_rfl) (by kernel_rfl) ?_
        repeat (first
          | (refine qskip rfl (fun K hK => ?_); go_simp; refine hK _ ?_; clear hK K)
          | (apply qval rfl; (case h => (intro u hu; obtain ⟨_, _⟩ := own_cells (own_below hu hA); obtain ⟨_, _⟩ := own_cells (own_below hu hB); obtain ⟨_, _⟩ := own_cells (own_below hu hC); go_simp; exact rfl)); (intro K hK; go_simp; refine hK _ ?_; clear hK K))
          | (apply qcall rfl; (case h => (intro u hu; go_simp; exact ⟨rfl, rfl⟩)); (case hc => (intro u hu; exact Calls.in_below hu (labelFlow_any _ _ _ _ _))); (intro K hK; go_simp; refine hK _ ?_; clear hK K)))
        refine wpQuiet_nil ?_
        intro w' hu
        replace tt := tt.trans (hu.mono tt.size)
        replace hA := own_below hu hA
        replace hB := own_below hu hB
        replace hC := own_below hu hC
        obtain ⟨cc_hA, ff_hA⟩ := own_cells hA; have zz_hA := own_lt hA; have zy_hA := Nat.lt_add_right 1 (own_lt hA)
        obtain ⟨cc_hB, ff_hB⟩ := own_cells hB; have zz_hB := own_lt hB; have zy_hB := Nat.lt_add_right 1 (own_lt hB)
        obtain ⟨cc_hC, ff_hC⟩ := own_cells hC; have zz_hC := own_lt hC; have zy_hC := Nat.lt_add_right 1 (own_lt hC)
        clear hu
        go_wp2_with fail
        go_ret
        exact ⟨rfl, tt⟩
    · cases f1 : flowB s1 v1 s1 v2
      · clear tr an
        go_wp2_with fail
        refine (labelFlow_any _ _ _ _ _).mono ?_
        rintro e w' ⟨rfl, hb⟩
        (try clear cc_hA ff_hA); (try clear zz_hA zy_hA)
        (try clear cc_hB ff_hB); (try clear zz_hB zy_hB)
        have zt := tt.size
        replace tt : Below w.heap.size w w' := by (refine Below.trans ?_ (hb.mono ?_)); (all_goals (repeat (first | exact tt | (refine Below.alloc ?_ ?_ _) | (refine Below.setCell ?_ ?_ _) | refine Below.drew ?_)); (all_goals (first | omega | (simp <;> omega))))
        clear zt
        replace hA := own_below hb (by repeat (first | exact hA | apply own_alloc))
        replace hB := own_below hb (by repeat (first | exact hB | apply own_alloc))
        obtain ⟨cc_hA, ff_hA⟩ := own_cells hA; have zz_hA := own_lt hA; have zy_hA := Nat.lt_add_right 1 (own_lt hA)
        obtain ⟨cc_hB, ff_hB⟩ := own_cells hB; have zz_hB := own_lt hB; have zy_hB := Nat.lt_add_right 1 (own_lt hB)
        clear hb
        go_wp2_with fail
        go_wp2_with (first | (go_at_call 15; refine (slabelFlow_any _ _ _ _ _).mono ?_; rintro e w' ⟨rfl, hb⟩; (try clear cc_hA ff_hA); (try clear zz_hA zy_hA); (try clear cc_hB ff_hB); (try clear zz_hB zy_hB); have zt := tt.size; (replace tt : Below w.heap.size w w' := by (refine Below.trans ?_ (hb.mono ?_)); (all_goals (repeat (first | exact tt | (refine Below.alloc ?_ ?_ _) | (refine Below.setCell ?_ ?_ _) | refine Below.drew ?_)); (all_goals (first | omega | (simp <;> omega))))); clear zt; replace hA := own_below hb (by repeat (first | exact hA | apply own_alloc)); replace hB := own_below hb (by repeat (first | exact hB | apply own_alloc)); obtain ⟨cc_hA, ff_hA⟩ := own_cells hA; have zz_hA := own_lt hA; have zy_hA := Nat.lt_add_right 1 (own_lt hA); obtain ⟨cc_hB, ff_hB⟩ := own_cells hB; have zz_hB := own_lt hB; have zy_hB := Nat.lt_add_right 1 (own_lt hB); clear hb) | (go_at_call 26; refine (slabelOk_any _ _ _).mono ?_; rintro e w' ⟨rfl, hb⟩; (try clear cc_hA ff_hA); (try clear zz_hA zy_hA); (try clear cc_hB ff_hB); (try clear zz_hB zy_hB); have zt := tt.size; (replace tt : Below w.heap.size w w' := by (refine Below.trans ?_ (hb.mono ?_)); (all_goals (repeat (first | exact tt | (refine Below.alloc ?_ ?_ _) | (refine Below.setCell ?_ ?_ _) | refine Below.drew ?_)); (all_goals (first | omega | (simp <;> omega))))); clear zt; replace hA := own_below hb (by repeat (first | exact hA | apply own_alloc)); replace hB := own_below hb (by repeat (first | exact hB | apply own_alloc)); obtain ⟨cc_hA, ff_hA⟩ := own_cells hA; have zz_hA := own_lt hA; have zy_hA := Nat.lt_add_right 1 (own_lt hA); obtain ⟨cc_hB, ff_hB⟩ := own_cells hB; have zz_hB := own_lt hB; have zy_hB := Nat.lt_add_right 1 (own_lt hB); clear hb))
        refine (ldLabel_any len' (by omega) _).mono ?_
        rintro e w' ⟨rfl, hb⟩
        (try clear cc_hA ff_hA); (try clear zz_hA zy_hA)
        (try clear cc_hB ff_hB); (try clear zz_hB zy_hB)
        have zt := tt.size
        replace tt : Below w.heap.size w w' := by (refine Below.trans ?_ (hb.mono ?_)); (all_goals (repeat (first | exact tt | (refine Below.alloc ?_ ?_ _) | (refine Below.setCell ?_ ?_ _) | refine Below.drew ?_)); (all_goals (first | omega | (simp <;> omega))))
        clear zt
        replace hA := own_below hb (by repeat (first | exact hA | apply own_alloc))
        replace hB := own_below hb (by repeat (first | exact hB | apply own_alloc))
        obtain ⟨cc_hA, ff_hA⟩ := own_cells hA; have zz_hA := own_lt hA; have zy_hA := Nat.lt_add_right 1 (own_lt hA)
        obtain ⟨cc_hB, ff_hB⟩ := own_cells hB; have zz_hB := own_lt hB; have zy_hB := Nat.lt_add_right 1 (own_lt hB)
        clear hb
        have hC := own_new w' (.cells #[.int .i64 ((len' : Int) % 4), .int .i64 ((len' : Int) / 4 % 4)] 25)
        go_wp2_with (first | (go_at_call 17; refine (labelFlow_any _ _ _ _ _).mono ?_; rintro e w' ⟨rfl, hb⟩; (try clear cc_hA ff_hA); (try clear zz_hA zy_hA); (try clear cc_hB ff_hB); (try clear zz_hB zy_hB); (try clear cc_hC ff_hC); (try clear zz_hC zy_hC); have zt := tt.size; (replace tt : Below w.heap.size w w' := by (refine Below.trans ?_ (hb.mono ?_)); (all_goals (repeat (first | exact tt | (refine Below.alloc ?_ ?_ _) | (refine Below.setCell ?_ ?_ _) | refine Below.drew ?_)); (all_goals (first | omega | (simp <;> omega))))); clear zt; replace hA := own_below hb (by repeat (first | exact hA | apply own_alloc)); replace hB := own_below hb (by repeat (first | exact hB | apply own_alloc)); replace hC := own_below hb (by repeat (first | exact hC | apply own_alloc)); obtain ⟨cc_hA, ff_hA⟩ := own_cells hA; have zz_hA := own_lt hA; have zy_hA := Nat.lt_add_right 1 (own_lt hA); obtain ⟨cc_hB, ff_hB⟩ := own_cells hB; have zz_hB := own_lt hB; have zy_hB := Nat.lt_add_right 1 (own_lt hB); obtain ⟨cc_hC, ff_hC⟩ := own_cells hC; have zz_hC := own_lt hC; have zy_hC := Nat.lt_add_right 1 (own_lt hC); clear hb))
        refine named (p := fun W => Code.wp _ _ _ _ W) _ ?_
        intro W hW
        (try clear cc_hA ff_hA); (try clear zz_hA zy_hA)
        (try clear cc_hB ff_hB); (try clear zz_hB zy_hB)
        (try clear cc_hC ff_hC); (try clear zz_hC zy_hC)
        have zt := tt.size
        replace tt : Below w.heap.size w W := by
          rw [← hW]
          (repeat (first | exact tt | (refine Below.alloc ?_ ?_ _) | (refine Below.setCell ?_ ?_ _) | refine Below.drew ?_)); (all_goals (first | omega | (simp <;> omega)))
        replace hA := own_eq hW (by repeat (first | exact hA | apply own_alloc))
        replace hB := own_eq hW (by repeat (first | exact hB | apply own_alloc))
        replace hC := own_eq hW (by repeat (first | exact hC | apply own_alloc))
        clear hW zt
        refine wp_region_quiet_below (by kernel_rfl) (by kernel_rfl) ?_
        repeat (first
          | (refine qskip rfl (fun K hK => ?_); go_simp; refine hK _ ?_; clear hK K)
          | (apply qval rfl; (case h => (intro u hu; obtain ⟨_, _⟩ := own_cells (own_below hu hA); obtain ⟨_, _⟩ := own_cells (own_below hu hB); obtain ⟨_, _⟩ := own_cells (own_below hu hC); go_simp; exact rfl)); (intro K hK; go_simp; refine hK _ ?_; clear hK K))
          | (apply qcall rfl; (case h => (intro u hu; go_simp; exact ⟨rfl, rfl⟩)); (case hc => (intro u hu; exact Calls.in_below hu (labelFlow_any _ _ _ _ _))); (intro K hK; go_simp; refine hK _ ?_; clear hK K)))
        refine wpQuiet_nil ?_
        intro w' hu
        replace tt := tt.trans (hu.mono tt.size)
        replace hA := own_below hu hA
        replace hB := own_below hu hB
        replace hC := own_below hu hC
        obtain ⟨cc_hA, ff_hA⟩ := own_cells hA; have zz_hA := own_lt hA; have zy_hA := Nat.lt_add_right 1 (own_lt hA)
        obtain ⟨cc_hB, ff_hB⟩ := own_cells hB; have zz_hB := own_lt hB; have zy_hB := Nat.lt_add_right 1 (own_lt hB)
        obtain ⟨cc_hC, ff_hC⟩ := own_cells hC; have zz_hC := own_lt hC; have zy_hC := Nat.lt_add_right 1 (own_lt hC)
        clear hu
        go_wp2_with fail
        go_ret
        exact ⟨rfl, tt⟩
      have f4 : flowB s1 v2 s1 v1 = false := by
        cases f4 : flowB s1 v2 s1 v1
        · rfl
        · exact absurd (an f1 f4).2 E2
      cases f2 : flowB s1 v2 ((len' : Int) % 4) ((len' : Int) / 4 % 4)
      · clear tr an
        go_wp2_with fail
        refine (labelFlow_any _ _ _ _ _).mono ?_
        rintro e w' ⟨rfl, hb⟩
        (try clear cc_hA ff_hA); (try clear zz_hA zy_hA)
        (try clear cc_hB ff_hB); (try clear zz_hB zy_hB)
        have zt := tt.size
        replace tt : Below w.heap.size w w' := by (refine Below.trans ?_ (hb.mono ?_)); (all_goals (repeat (first | exact tt | (refine Below.alloc ?_ ?_ _) | (refine Below.setCell ?_ ?_ _) | refine Below.drew ?_)); (all_goals (first | omega | (simp <;> omega))))
        clear zt
        replace hA := own_below hb (by repeat (first | exact hA | apply own_alloc))
        replace hB := own_below hb (by repeat (first | exact hB | apply own_alloc))
        obtain ⟨cc_hA, ff_hA⟩ := own_cells hA; have zz_hA := own_lt hA; have zy_hA := Nat.lt_add_right 1 (own_lt hA)
        obtain ⟨cc_hB, ff_hB⟩ := own_cells hB; have zz_hB := own_lt hB; have zy_hB := Nat.lt_add_right 1 (own_lt hB)
        clear hb
        go_wp2_with fail
        go_wp2_with (first | (go_at_call 15; refine (slabelFlow_any _ _ _ _ _).mono ?_; rintro e w' ⟨rfl, hb⟩; (try clear cc_hA ff_hA); (try clear zz_hA zy_hA); (try clear cc_hB ff_hB); (try clear zz_hB zy_hB); have zt := tt.size; (replace tt : Below w.heap.size w w' := by (refine Below.trans ?_ (hb.mono ?_)); (all_goals (repeat (first | exact tt | (refine Below.alloc ?_ ?_ _) | (refine Below.setCell ?_ ?_ _) | refine Below.drew ?_)); (all_goals (first | omega | (simp <;> omega))))); clear zt; replace hA := own_below hb (by repeat (first | exact hA | apply own_alloc)); replace hB := own_below hb (by repeat (first | exact hB | apply own_alloc)); obtain ⟨cc_hA, ff_hA⟩ := own_cells hA; have zz_hA := own_lt hA; have zy_hA := Nat.lt_add_right 1 (own_lt hA); obtain ⟨cc_hB, ff_hB⟩ := own_cells hB; have zz_hB := own_lt hB; have zy_hB := Nat.lt_add_right 1 (own_lt hB); clear hb) | (go_at_call 26; refine (slabelOk_any _ _ _).mono ?_; rintro e w' ⟨rfl, hb⟩; (try clear cc_hA ff_hA); (try clear zz_hA zy_hA); (try clear cc_hB ff_hB); (try clear zz_hB zy_hB); have zt := tt.size; (replace tt : Below w.heap.size w w' := by (refine Below.trans ?_ (hb.mono ?_)); (all_goals (repeat (first | exact tt | (refine Below.alloc ?_ ?_ _) | (refine Below.setCell ?_ ?_ _) | refine Below.drew ?_)); (all_goals (first | omega | (simp <;> omega))))); clear zt; replace hA := own_below hb (by repeat (first | exact hA | apply own_alloc)); replace hB := own_below hb (by repeat (first | exact hB | apply own_alloc)); obtain ⟨cc_hA, ff_hA⟩ := own_cells hA; have zz_hA := own_lt hA; have zy_hA := Nat.lt_add_right 1 (own_lt hA); obtain ⟨cc_hB, ff_hB⟩ := own_cells hB; have zz_hB := own_lt hB; have zy_hB := Nat.lt_add_right 1 (own_lt hB); clear hb))
        refine (ldLabel_any len' (by omega) _).mono ?_
        rintro e w' ⟨rfl, hb⟩
        (try clear cc_hA ff_hA); (try clear zz_hA zy_hA)
        (try clear cc_hB ff_hB); (try clear zz_hB zy_hB)
        have zt := tt.size
        replace tt : Below w.heap.size w w' := by (refine Below.trans ?_ (hb.mono ?_)); (all_goals (repeat (first | exact tt | (refine Below.alloc ?_ ?_ _) | (refine Below.setCell ?_ ?_ _) | refine Below.drew ?_)); (all_goals (first | omega | (simp <;> omega))))
        clear zt
        replace hA := own_below hb (by repeat (first | exact hA | apply own_alloc))
        replace hB := own_below hb (by repeat (first | exact hB | apply own_alloc))
        obtain ⟨cc_hA, ff_hA⟩ := own_cells hA; have zz_hA := own_lt hA; have zy_hA := Nat.lt_add_right 1 (own_lt hA)
        obtain ⟨cc_hB, ff_hB⟩ := own_cells hB; have zz_hB := own_lt hB; have zy_hB := Nat.lt_add_right 1 (own_lt hB)
        clear hb
        have hC := own_new w' (.cells #[.int .i64 ((len' : Int) % 4), .int .i64 ((len' : Int) / 4 % 4)] 25)
        go_wp2_with (first | (go_at_call 17; refine (labelFlow_any _ _ _ _ _).mono ?_; rintro e w' ⟨rfl, hb⟩; (try clear cc_hA ff_hA); (try clear zz_hA zy_hA); (try clear cc_hB ff_hB); (try clear zz_hB zy_hB); (try clear cc_hC ff_hC); (try clear zz_hC zy_hC); have zt := tt.size; (replace tt : Below w.heap.size w w' := by (refine Below.trans ?_ (hb.mono ?_)); (all_goals (repeat (first | exact tt | (refine Below.alloc ?_ ?_ _) | (refine Below.setCell ?_ ?_ _) | refine Below.drew ?_)); (all_goals (first | omega | (simp <;> omega))))); clear zt; replace hA := own_below hb (by repeat (first | exact hA | apply own_alloc)); replace hB := own_below hb (by repeat (first | exact hB | apply own_alloc)); replace hC := own_below hb (by repeat (first | exact hC | apply own_alloc)); obtain ⟨cc_hA, ff_hA⟩ := own_cells hA; have zz_hA := own_lt hA; have zy_hA := Nat.lt_add_right 1 (own_lt hA); obtain ⟨cc_hB, ff_hB⟩ := own_cells hB; have zz_hB := own_lt hB; have zy_hB := Nat.lt_add_right 1 (own_lt hB); obtain ⟨cc_hC, ff_hC⟩ := own_cells hC; have zz_hC := own_lt hC; have zy_hC := Nat.lt_add_right 1 (own_lt hC); clear hb))
        refine named (p := fun W => Code.wp _ _ _ _ W) _ ?_
        intro W hW
        (try clear cc_hA ff_hA); (try clear zz_hA zy_hA)
        (try clear cc_hB ff_hB); (try clear zz_hB zy_hB)
        (try clear cc_hC ff_hC); (try clear zz_hC zy_hC)
        have zt := tt.size
        replace tt : Below w.heap.size w W := by
          rw [← hW]
          (repeat (first | exact tt | (refine Below.alloc ?_ ?_ _) | (refine Below.setCell ?_ ?_ _) | refine Below.drew ?_)); (all_goals (first | omega | (simp <;> omega)))
        replace hA := own_eq hW (by repeat (first | exact hA | apply own_alloc))
        replace hB := own_eq hW (by repeat (first | exact hB | apply own_alloc))
        replace hC := own_eq hW (by repeat (first | exact hC | apply own_alloc))
        clear hW zt
        refine wp_region_quiet_below (by kernel_rfl) (by kernel_rfl) ?_
        repeat (first
          | (refine qskip rfl (fun K hK => ?_); go_simp; refine hK _ ?_; clear hK K)
          | (apply qval rfl; (case h => (intro u hu; obtain ⟨_, _⟩ := own_cells (own_below hu hA); obtain ⟨_, _⟩ := own_cells (own_below hu hB); obtain ⟨_, _⟩ := own_cells (own_below hu hC); go_simp; exact rfl)); (intro K hK; go_simp; refine hK _ ?_; clear hK K))
          | (apply qcall rfl; (case h => (intro u hu; go_simp; exact ⟨rfl, rfl⟩)); (case hc => (intro u hu; exact Calls.in_below hu (labelFlow_any _ _ _ _ _))); (intro K hK; go_simp; refine hK _ ?_; clear hK K)))
        refine wpQuiet_nil ?_
        intro w' hu
        replace tt := tt.trans (hu.mono tt.size)
        replace hA := own_below hu hA
        replace hB := own_below hu hB
        replace hC := own_below hu hC
        obtain ⟨cc_hA, ff_hA⟩ := own_cells hA; have zz_hA := own_lt hA; have zy_hA := Nat.lt_add_right 1 (own_lt hA)
        obtain ⟨cc_hB, ff_hB⟩ := own_cells hB; have zz_hB := own_lt hB; have zy_hB := Nat.lt_add_right 1 (own_lt hB)
        obtain ⟨cc_hC, ff_hC⟩ := own_cells hC; have zz_hC := own_lt hC; have zy_hC := Nat.lt_add_right 1 (own_lt hC)
        clear hu
        go_wp2_with fail
        go_ret
        exact ⟨rfl, tt⟩
      have f3 := tr f1 f2
      clear tr an
      go_wp2_with fail
      refine (labelFlow_any _ _ _ _ _).mono ?_
      rintro e w' ⟨rfl, hb⟩
      (try clear cc_hA ff_hA); (try clear zz_hA zy_hA)
      (try clear cc_hB ff_hB); (try clear zz_hB zy_hB)
      have zt := tt.size
      replace tt : Below w.heap.size w w' := by (refine Below.trans ?_ (hb.mono ?_)); (all_goals (repeat (first | exact tt | (refine Below.alloc ?_ ?_ _) | (refine Below.setCell ?_ ?_ _) | refine Below.drew ?_)); (all_goals (first | omega | (simp <;> omega))))
      clear zt
      replace hA := own_below hb (by repeat (first | exact hA | apply own_alloc))
      replace hB := own_below hb (by repeat (first | exact hB | apply own_alloc))
      obtain ⟨cc_hA, ff_hA⟩ := own_cells hA; have zz_hA := own_lt hA; have zy_hA := Nat.lt_add_right 1 (own_lt hA)
      obtain ⟨cc_hB, ff_hB⟩ := own_cells hB; have zz_hB := own_lt hB; have zy_hB := Nat.lt_add_right 1 (own_lt hB)
      clear hb
      go_wp2_with fail
      go_wp2_with (first | (go_at_call 15; refine (slabelFlow_any _ _ _ _ _).mono ?_; rintro e w' ⟨rfl, hb⟩; (try clear cc_hA ff_hA); (try clear zz_hA zy_hA); (try clear cc_hB ff_hB); (try clear zz_hB zy_hB); have zt := tt.size; (replace tt : Below w.heap.size w w' := by (refine Below.trans ?_ (hb.mono ?_)); (all_goals (repeat (first | exact tt | (refine Below.alloc ?_ ?_ _) | (refine Below.setCell ?_ ?_ _) | refine Below.drew ?_)); (all_goals (first | omega | (simp <;> omega))))); clear zt; replace hA := own_below hb (by repeat (first | exact hA | apply own_alloc)); replace hB := own_below hb (by repeat (first | exact hB | apply own_alloc)); obtain ⟨cc_hA, ff_hA⟩ := own_cells hA; have zz_hA := own_lt hA; have zy_hA := Nat.lt_add_right 1 (own_lt hA); obtain ⟨cc_hB, ff_hB⟩ := own_cells hB; have zz_hB := own_lt hB; have zy_hB := Nat.lt_add_right 1 (own_lt hB); clear hb) | (go_at_call 26; refine (slabelOk_any _ _ _).mono ?_; rintro e w' ⟨rfl, hb⟩; (try clear cc_hA ff_hA); (try clear zz_hA zy_hA); (try clear cc_hB ff_hB); (try clear zz_hB zy_hB); have zt := tt.size; (replace tt : Below w.heap.size w w' := by (refine Below.trans ?_ (hb.mono ?_)); (all_goals (repeat (first | exact tt | (refine Below.alloc ?_ ?_ _) | (refine Below.setCell ?_ ?_ _) | refine Below.drew ?_)); (all_goals (first | omega | (simp <;> omega))))); clear zt; replace hA := own_below hb (by repeat (first | exact hA | apply own_alloc)); replace hB := own_below hb (by repeat (first | exact hB | apply own_alloc)); obtain ⟨cc_hA, ff_hA⟩ := own_cells hA; have zz_hA := own_lt hA; have zy_hA := Nat.lt_add_right 1 (own_lt hA); obtain ⟨cc_hB, ff_hB⟩ := own_cells hB; have zz_hB := own_lt hB; have zy_hB := Nat.lt_add_right 1 (own_lt hB); clear hb))
      refine (ldLabel_any len' (by omega) _).mono ?_
      rintro e w' ⟨rfl, hb⟩
      (try clear cc_hA ff_hA); (try clear zz_hA zy_hA)
      (try clear cc_hB ff_hB); (try clear zz_hB zy_hB)
      have zt := tt.size
      replace tt : Below w.heap.size w w' := by (refine Below.trans ?_ (hb.mono ?_)); (all_goals (repeat (first | exact tt | (refine Below.alloc ?_ ?_ _) | (refine Below.setCell ?_ ?_ _) | refine Below.drew ?_)); (all_goals (first | omega | (simp <;> omega))))
      clear zt
      replace hA := own_below hb (by repeat (first | exact hA | apply own_alloc))
      replace hB := own_below hb (by repeat (first | exact hB | apply own_alloc))
      obtain ⟨cc_hA, ff_hA⟩ := own_cells hA; have zz_hA := own_lt hA; have zy_hA := Nat.lt_add_right 1 (own_lt hA)
      obtain ⟨cc_hB, ff_hB⟩ := own_cells hB; have zz_hB := own_lt hB; have zy_hB := Nat.lt_add_right 1 (own_lt hB)
      clear hb
      have hC := own_new w' (.cells #[.int .i64 ((len' : Int) % 4), .int .i64 ((len' : Int) / 4 % 4)] 25)
      go_wp2_with (first | (go_at_call 17; refine (labelFlow_any _ _ _ _ _).mono ?_; rintro e w' ⟨rfl, hb⟩; (try clear cc_hA ff_hA); (try clear zz_hA zy_hA); (try clear cc_hB ff_hB); (try clear zz_hB zy_hB); (try clear cc_hC ff_hC); (try clear zz_hC zy_hC); have zt := tt.size; (replace tt : Below w.heap.size w w' := by (refine Below.trans ?_ (hb.mono ?_)); (all_goals (repeat (first | exact tt | (refine Below.alloc ?_ ?_ _) | (refine Below.setCell ?_ ?_ _) | refine Below.drew ?_)); (all_goals (first | omega | (simp <;> omega))))); clear zt; replace hA := own_below hb (by repeat (first | exact hA | apply own_alloc)); replace hB := own_below hb (by repeat (first | exact hB | apply own_alloc)); replace hC := own_below hb (by repeat (first | exact hC | apply own_alloc)); obtain ⟨cc_hA, ff_hA⟩ := own_cells hA; have zz_hA := own_lt hA; have zy_hA := Nat.lt_add_right 1 (own_lt hA); obtain ⟨cc_hB, ff_hB⟩ := own_cells hB; have zz_hB := own_lt hB; have zy_hB := Nat.lt_add_right 1 (own_lt hB); obtain ⟨cc_hC, ff_hC⟩ := own_cells hC; have zz_hC := own_lt hC; have zy_hC := Nat.lt_add_right 1 (own_lt hC); clear hb))
      refine named (p := fun W => Code.wp _ _ _ _ W) _ ?_
      intro W hW
      (try clear cc_hA ff_hA); (try clear zz_hA zy_hA)
      (try clear cc_hB ff_hB); (try clear zz_hB zy_hB)
      (try clear cc_hC ff_hC); (try clear zz_hC zy_hC)
      have zt := tt.size
      replace tt : Below w.heap.size w W := by
        rw [← hW]
        (repeat (first | exact tt | (refine Below.alloc ?_ ?_ _) | (refine Below.setCell ?_ ?_ _) | refine Below.drew ?_)); (all_goals (first | omega | (simp <;> omega)))
      replace hA := own_eq hW (by repeat (first | exact hA | apply own_alloc))
      replace hB := own_eq hW (by repeat (first | exact hB | apply own_alloc))
      replace hC := own_eq hW (by repeat (first | exact hC | apply own_alloc))
      clear hW zt
      refine wp_region_quiet_below (by kernel_rfl) (by kernel_rfl) ?_
      repeat (first
        | (refine qskip rfl (fun K hK => ?_); go_simp; refine hK _ ?_; clear hK K)
        | (apply qval rfl; (case h => (intro u hu; obtain ⟨_, _⟩ := own_cells (own_below hu hA); obtain ⟨_, _⟩ := own_cells (own_below hu hB); obtain ⟨_, _⟩ := own_cells (own_below hu hC); go_simp; exact rfl)); (intro K hK; go_simp; refine hK _ ?_; clear hK K))
        | (apply qcall rfl; (case h => (intro u hu; go_simp; exact ⟨rfl, rfl⟩)); (case hc => (intro u hu; exact Calls.in_below hu (labelFlow_any _ _ _ _ _))); (intro K hK; go_simp; refine hK _ ?_; clear hK K)))
      refine wpQuiet_nil ?_
      intro w' hu
      replace tt := tt.trans (hu.mono tt.size)
      replace hA := own_below hu hA
      replace hB := own_below hu hB
      replace hC := own_below hu hC
      obtain ⟨cc_hA, ff_hA⟩ := own_cells hA; have zz_hA := own_lt hA; have zy_hA := Nat.lt_add_right 1 (own_lt hA)
      obtain ⟨cc_hB, ff_hB⟩ := own_cells hB; have zz_hB := own_lt hB; have zy_hB := Nat.lt_add_right 1 (own_lt hB)
      obtain ⟨cc_hC, ff_hC⟩ := own_cells hC; have zz_hC := own_lt hC; have zy_hC := Nat.lt_add_right 1 (own_lt hC)
      clear hu
      go_wp2_with fail
      go_ret
      exact ⟨rfl, tt⟩
  · cases f1 : flowB s1 v1 s2 v2
    · clear tr an
      go_wp2_with fail
      refine (labelFlow_any _ _ _ _ _).mono ?_
      rintro e w' ⟨rfl, hb⟩
      (try clear cc_hA ff_hA); (try clear zz_hA zy_hA)
      (try clear cc_hB ff_hB); (try clear zz_hB zy_hB)
      have zt := tt.size
      replace tt : Below w.heap.size w w' := by (refine Below.trans ?_ (hb.mono ?_)); (all_goals (repeat (first | exact tt | (refine Below.alloc ?_ ?_ _) | (refine Below.setCell ?_ ?_ _) | refine Below.drew ?_)); (all_goals (first | omega | (simp <;> omega))))
      clear zt
      replace hA := own_below hb (by repeat (first | exact hA | apply own_alloc))
      replace hB := own_below hb (by repeat (first | exact hB | apply own_alloc))
      obtain ⟨cc_hA, ff_hA⟩ := own_cells hA; have zz_hA := own_lt hA; have zy_hA := Nat.lt_add_right 1 (own_lt hA)
      obtain ⟨cc_hB, ff_hB⟩ := own_cells hB; have zz_hB := own_lt hB; have zy_hB := Nat.lt_add_right 1 (own_lt hB)
      clear hb
      go_wp2_with fail
      go_wp2_with (first | (go_at_call 15; refine (slabelFlow_any _ _ _ _ _).mono ?_; rintro e w' ⟨rfl, hb⟩; (try clear cc_hA ff_hA); (try clear zz_hA zy_hA); (try clear cc_hB ff_hB); (try clear zz_hB zy_hB); have zt := tt.size; (replace tt : Below w.heap.size w w' := by (refine Below.trans ?_ (hb.mono ?_)); (all_goals (repeat (first | exact tt | (refine Below.alloc ?_ ?_ _) | (refine Below.setCell ?_ ?_ _) | refine Below.drew ?_)); (all_goals (first | omega | (simp <;> omega))))); clear zt; replace hA := own_below hb (by repeat (first | exact hA | apply own_alloc)); replace hB := own_below hb (by repeat (first | exact hB | apply own_alloc)); obtain ⟨cc_hA, ff_hA⟩ := own_cells hA; have zz_hA := own_lt hA; have zy_hA := Nat.lt_add_right 1 (own_lt hA); obtain ⟨cc_hB, ff_hB⟩ := own_cells hB; have zz_hB := own_lt hB; have zy_hB := Nat.lt_add_right 1 (own_lt hB); clear hb) | (go_at_call 26; refine (slabelOk_any _ _ _).mono ?_; rintro e w' ⟨rfl, hb⟩; (try clear cc_hA ff_hA); (try clear zz_hA zy_hA); (try clear cc_hB ff_hB); (try clear zz_hB zy_hB); have zt := tt.size; (replace tt : Below w.heap.size w w' := by (refine Below.trans ?_ (hb.mono ?_)); (all_goals (repeat (first | exact tt | (refine Below.alloc ?_ ?_ _) | (refine Below.setCell ?_ ?_ _) | refine Below.drew ?_)); (all_goals (first | omega | (simp <;> omega))))); clear zt; replace hA := own_below hb (by repeat (first | exact hA | apply own_alloc)); replace hB := own_below hb (by repeat (first | exact hB | apply own_alloc)); obtain ⟨cc_hA, ff_hA⟩ := own_cells hA; have zz_hA := own_lt hA; have zy_hA := Nat.lt_add_right 1 (own_lt hA); obtain ⟨cc_hB, ff_hB⟩ := own_cells hB; have zz_hB := own_lt hB; have zy_hB := Nat.lt_add_right 1 (own_lt hB); clear hb))
      refine (ldLabel_any len' (by omega) _).mono ?_
      rintro e w' ⟨rfl, hb⟩
      (try clear cc_hA ff_hA); (try clear zz_hA zy_hA)
      (try clear cc_hB ff_hB); (try clear zz_hB zy_hB)
      have zt := tt.size
      replace tt : Below w.heap.size w w' := by (refine Below.trans ?_ (hb.mono ?_)); (all_goals (repeat (first | exact tt | (refine Below.alloc ?_ ?_ _) | (refine Below.setCell ?_ ?_ _) | refine Below.drew ?_)); (all_goals (first | omega | (simp <;> omega))))
      clear zt
      replace hA := own_below hb (by repeat (first | exact hA | apply own_alloc))
      replace hB := own_below hb (by repeat (first | exact hB | apply own_alloc))
      obtain ⟨cc_hA, ff_hA⟩ := own_cells hA; have zz_hA := own_lt hA; have zy_hA := Nat.lt_add_right 1 (own_lt hA)
      obtain ⟨cc_hB, ff_hB⟩ := own_cells hB; have zz_hB := own_lt hB; have zy_hB := Nat.lt_add_right 1 (own_lt hB)
      clear hb
      have hC := own_new w' (.cells #[.int .i64 ((len' : Int) % 4), .int .i64 ((len' : Int) / 4 % 4)] 25)
      go_wp2_with (first | (go_at_call 17; refine (labelFlow_any _ _ _ _ _).mono ?_; rintro e w' ⟨rfl, hb⟩; (try clear cc_hA ff_hA); (try clear zz_hA zy_hA); (try clear cc_hB ff_hB); (try clear zz_hB zy_hB); (try clear cc_hC ff_hC); (try clear zz_hC zy_hC); have zt := tt.size; (replace tt : Below w.heap.size w w' := by (refine Below.trans ?_ (hb.mono ?_)); (all_goals (repeat (first | exact tt | (refine Below.alloc ?_ ?_ _) | (refine Below.setCell ?_ ?_ _) | refine Below.drew ?_)); (all_goals (first | omega | (simp <;> omega))))); clear zt; replace hA := own_below hb (by repeat (first | exact hA | apply own_alloc)); replace hB := own_below hb (by repeat (first | exact hB | apply own_alloc)); replace hC := own_below hb (by repeat (first | exact hC | apply own_alloc)); obtain ⟨cc_hA, ff_hA⟩ := own_cells hA; have zz_hA := own_lt hA; have zy_hA := Nat.lt_add_right 1 (own_lt hA); obtain ⟨cc_hB, ff_hB⟩ := own_cells hB; have zz_hB := own_lt hB; have zy_hB := Nat.lt_add_right 1 (own_lt hB); obtain ⟨cc_hC, ff_hC⟩ := own_cells hC; have zz_hC := own_lt hC; have zy_hC := Nat.lt_add_right 1 (own_lt hC); clear hb))
      refine named (p := fun W => Code.wp _ _ _ _ W) _ ?_
      intro W hW
      (try clear cc_hA ff_hA); (try clear zz_hA zy_hA)
      (try clear cc_hB ff_hB); (try clear zz_hB zy_hB)
      (try clear cc_hC ff_hC); (try clear zz_hC zy_hC)
      have zt := tt.size
      replace tt : Below w.heap.size w W := by
        rw [← hW]
        (repeat (first | exact tt | (refine Below.alloc ?_ ?_ _) | (refine Below.setCell ?_ ?_ _) | refine Below.drew ?_)); (all_goals (first | omega | (simp <;> omega)))
      replace hA := own_eq hW (by repeat (first | exact hA | apply own_alloc))
      replace hB := own_eq hW (by repeat (first | exact hB | apply own_alloc))
      replace hC := own_eq hW (by repeat (first | exact hC | apply own_alloc))
      clear hW zt
      refine wp_region_quiet_below (by kernel_rfl) (by kernel_rfl) ?_
      repeat (first
        | (refine qskip rfl (fun K hK => ?_); go_simp; refine hK _ ?_; clear hK K)
        | (apply qval rfl; (case h => (intro u hu; obtain ⟨_, _⟩ := own_cells (own_below hu hA); obtain ⟨_, _⟩ := own_cells (own_below hu hB); obtain ⟨_, _⟩ := own_cells (own_below hu hC); go_simp; exact rfl)); (intro K hK; go_simp; refine hK _ ?_; clear hK K))
        | (apply qcall rfl; (case h => (intro u hu; go_simp; exact ⟨rfl, rfl⟩)); (case hc => (intro u hu; exact Calls.in_below hu (labelFlow_any _ _ _ _ _))); (intro K hK; go_simp; refine hK _ ?_; clear hK K)))
      refine wpQuiet_nil ?_
      intro w' hu
      replace tt := tt.trans (hu.mono tt.size)
      replace hA := own_below hu hA
      replace hB := own_below hu hB
      replace hC := own_below hu hC
      obtain ⟨cc_hA, ff_hA⟩ := own_cells hA; have zz_hA := own_lt hA; have zy_hA := Nat.lt_add_right 1 (own_lt hA)
      obtain ⟨cc_hB, ff_hB⟩ := own_cells hB; have zz_hB := own_lt hB; have zy_hB := Nat.lt_add_right 1 (own_lt hB)
      obtain ⟨cc_hC, ff_hC⟩ := own_cells hC; have zz_hC := own_lt hC; have zy_hC := Nat.lt_add_right 1 (own_lt hC)
      clear hu
      go_wp2_with fail
      go_ret
      exact ⟨rfl, tt⟩
    have f4 : flowB s2 v2 s1 v1 = false := by
      cases f4 : flowB s2 v2 s1 v1
      · rfl
      · exact absurd (an f1 f4).1 E1
    cases f2 : flowB s2 v2 ((len' : Int) % 4) ((len' : Int) / 4 % 4)
    · clear tr an
      go_wp2_with fail
      refine (labelFlow_any _ _ _ _ _).mono ?_
      rintro e w' ⟨rfl, hb⟩
      (try clear cc_hA ff_hA); (try clear zz_hA zy_hA)
      (try clear cc_hB ff_hB); (try clear zz_hB zy_hB)
      have zt := tt.size
      replace tt : Below w.heap.size w w' := by (refine Below.trans ?_ (hb.mono ?_)); (all_goals (repeat (first | exact tt | (refine Below.alloc ?_ ?_ _) | (refine Below.setCell ?_ ?_ _) | refine Below.drew ?_)); (all_goals (first | omega | (simp <;> omega))))
      clear zt
      replace hA := own_below hb (by repeat (first | exact hA | apply own_alloc))
      replace hB := own_below hb (by repeat (first | exact hB | apply own_alloc))
      obtain ⟨cc_hA, ff_hA⟩ := own_cells hA; have zz_hA := own_lt hA; have zy_hA := Nat.lt_add_right 1 (own_lt hA)
      obtain ⟨cc_hB, ff_hB⟩ := own_cells hB; have zz_hB := own_lt hB; have zy_hB := Nat.lt_add_right 1 (own_lt hB)
      clear hb
      go_wp2_with fail
      go_wp2_with (first | (go_at_call 15; refine (slabelFlow_any _ _ _ _ _).mono ?_; rintro e w' ⟨rfl, hb⟩; (try clear cc_hA ff_hA); (try clear zz_hA zy_hA); (try clear cc_hB ff_hB); (try clear zz_hB zy_hB); have zt := tt.size; (replace tt : Below w.heap.size w w' := by (refine Below.trans ?_ (hb.mono ?_)); (all_goals (repeat (first | exact tt | (refine Below.alloc ?_ ?_ _) | (refine Below.setCell ?_ ?_ _) | refine Below.drew ?_)); (all_goals (first | omega | (simp <;> omega))))); clear zt; replace hA := own_below hb (by repeat (first | exact hA | apply own_alloc)); replace hB := own_below hb (by repeat (first | exact hB | apply own_alloc)); obtain ⟨cc_hA, ff_hA⟩ := own_cells hA; have zz_hA := own_lt hA; have zy_hA := Nat.lt_add_right 1 (own_lt hA); obtain ⟨cc_hB, ff_hB⟩ := own_cells hB; have zz_hB := own_lt hB; have zy_hB := Nat.lt_add_right 1 (own_lt hB); clear hb) | (go_at_call 26; refine (slabelOk_any _ _ _).mono ?_; rintro e w' ⟨rfl, hb⟩; (try clear cc_hA ff_hA); (try clear zz_hA zy_hA); (try clear cc_hB ff_hB); (try clear zz_hB zy_hB); have zt := tt.size; (replace tt : Below w.heap.size w w' := by (refine Below.trans ?_ (hb.mono ?_)); (all_goals (repeat (first | exact tt | (refine Below.alloc ?_ ?_ _) | (refine Below.setCell ?_ ?_ _) | refine Below.drew ?_)); (all_goals (first | omega | (simp <;> omega))))); clear zt; replace hA := own_below hb (by repeat (first | exact hA | apply own_alloc)); replace hB := own_below hb (by repeat (first | exact hB | apply own_alloc)); obtain ⟨cc_hA, ff_hA⟩ := own_cells hA; have zz_hA := own_lt hA; have zy_hA := Nat.lt_add_right 1 (own_lt hA); obtain ⟨cc_hB, ff_hB⟩ := own_cells hB; have zz_hB := own_lt hB; have zy_hB := Nat.lt_add_right 1 (own_lt hB); clear hb))
      refine (ldLabel_any len' (by omega) _).mono ?_
      rintro e w' ⟨rfl, hb⟩
      (try clear cc_hA ff_hA); (try clear zz_hA zy_hA)
      (try clear cc_hB ff_hB); (try clear zz_hB zy_hB)
      have zt := tt.size
      replace tt : Below w.heap.size w w' := by (refine Below.trans ?_ (hb.mono ?_)); (all_goals (repeat (first | exact tt | (refine Below.alloc ?_ ?_ _) | (refine Below.setCell ?_ ?_ _) | refine Below.drew ?_)); (all_goals (first | omega | (simp <;> omega))))
      clear zt
      replace hA := own_below hb (by repeat (first | exact hA | apply own_alloc))
      replace hB := own_below hb (by repeat (first | exact hB | apply own_alloc))
      obtain ⟨cc_hA, ff_hA⟩ := own_cells hA; have zz_hA := own_lt hA; have zy_hA := Nat.lt_add_right 1 (own_lt hA)
      obtain ⟨cc_hB, ff_hB⟩ := own_cells hB; have zz_hB := own_lt hB; have zy_hB := Nat.lt_add_right 1 (own_lt hB)
      clear hb
      have hC := own_new w' (.cells #[.int .i64 ((len' : Int) % 4), .int .i64 ((len' : Int) / 4 % 4)] 25)
      go_wp2_with (first | (go_at_call 17; refine (labelFlow_any _ _ _ _ _).mono ?_; rintro e w' ⟨rfl, hb⟩; (try clear cc_hA ff_hA); (try clear zz_hA zy_hA); (try clear cc_hB ff_hB); (try clear zz_hB zy_hB); (try clear cc_hC ff_hC); (try clear zz_hC zy_hC); have zt := tt.size; (replace tt : Below w.heap.size w w' := by (refine Below.trans ?_ (hb.mono ?_)); (all_goals (repeat (first | exact tt | (refine Below.alloc ?_ ?_ _) | (refine Below.setCell ?_ ?_ _) | refine Below.drew ?_)); (all_goals (first | omega | (simp <;> omega))))); clear zt; replace hA := own_below hb (by repeat (first | exact hA | apply own_alloc)); replace hB := own_below hb (by repeat (first | exact hB | apply own_alloc)); replace hC := own_below hb (by repeat (first | exact hC | apply own_alloc)); obtain ⟨cc_hA, ff_hA⟩ := own_cells hA; have zz_hA := own_lt hA; have zy_hA := Nat.lt_add_right 1 (own_lt hA); obtain ⟨cc_hB, ff_hB⟩ := own_cells hB; have zz_hB := own_lt hB; have zy_hB := Nat.lt_add_right 1 (own_lt hB); obtain ⟨cc_hC, ff_hC⟩ := own_cells hC; have zz_hC := own_lt hC; have zy_hC := Nat.lt_add_right 1 (own_lt hC); clear hb))
      refine named (p := fun W => Code.wp _ _ _ _ W) _ ?_
      intro W hW
      (try clear cc_hA ff_hA); (try clear zz_hA zy_hA)
      (try clear cc_hB ff_hB); (try clear zz_hB zy_hB)
      (try clear cc_hC ff_hC); (try clear zz_hC zy_hC)
      have zt := tt.size
      replace tt : Below w.heap.size w W := by
        rw [← hW]
        (repeat (first | exact tt | (refine Below.alloc ?_ ?_ _) | (refine Below.setCell ?_ ?_ _) | refine Below.drew ?_)); (all_goals (first | omega | (simp <;> omega)))
      replace hA := own_eq hW (by repeat (first | exact hA | apply own_alloc))
      replace hB := own_eq hW (by repeat (first | exact hB | apply own_alloc))
      replace hC := own_eq hW (by repeat (first | exact hC | apply own_alloc))
      clear hW zt
      refine wp_region_quiet_below (by kernel_rfl) (by kernel_rfl) ?_
      repeat (first
        | (refine qskip rfl (fun K hK => ?_); go_simp; refine hK _ ?_; clear hK K)
        | (apply qval rfl; (case h => (intro u hu; obtain ⟨_, _⟩ := own_cells (own_below hu hA); obtain ⟨_, _⟩ := own_cells (own_below hu hB); obtain ⟨_, _⟩ := own_cells (own_below hu hC); go_simp; exact rfl)); (intro K hK; go_simp; refine hK _ ?_; clear hK K))
        | (apply qcall rfl; (case h => (intro u hu; go_simp; exact ⟨rfl, rfl⟩)); (case hc => (intro u hu; exact Calls.in_below hu (labelFlow_any _ _ _ _ _))); (intro K hK; go_simp; refine hK _ ?_; clear hK K)))
      refine wpQuiet_nil ?_
      intro w' hu
      replace tt := tt.trans (hu.mono tt.size)
      replace hA := own_below hu hA
      replace hB := own_below hu hB
      replace hC := own_below hu hC
      obtain ⟨cc_hA, ff_hA⟩ := own_cells hA; have zz_hA := own_lt hA; have zy_hA := Nat.lt_add_right 1 (own_lt hA)
      obtain ⟨cc_hB, ff_hB⟩ := own_cells hB; have zz_hB := own_lt hB; have zy_hB := Nat.lt_add_right 1 (own_lt hB)
      obtain ⟨cc_hC, ff_hC⟩ := own_cells hC; have zz_hC := own_lt hC; have zy_hC := Nat.lt_add_right 1 (own_lt hC)
      clear hu
      go_wp2_with fail
      go_ret
      exact ⟨rfl, tt⟩
    have f3 := tr f1 f2
    clear tr an
    go_wp2_with fail
    refine (labelFlow_any _ _ _ _ _).mono ?_
    rintro e w' ⟨rfl, hb⟩
    (try clear cc_hA ff_hA); (try clear zz_hA zy_hA)
    (try clear cc_hB ff_hB); (try clear zz_hB zy_hB)
    have zt := tt.size
    replace tt : Below w.heap.size w w' := by (refine Below.trans ?_ (hb.mono ?_)); (all_goals (repeat (first | exact tt | (refine Below.alloc ?_ ?_ _) | (refine Below.setCell ?_ ?_ _) | refine Below.drew ?_)); (all_goals (first | omega | (simp <;> omega))))
    clear zt
    replace hA := own_below hb (by repeat (first | exact hA | apply own_alloc))
    replace hB := own_below hb (by repeat (first | exact hB | apply own_alloc))
    obtain ⟨cc_hA, ff_hA⟩ := own_cells hA; have zz_hA := own_lt hA; have zy_hA := Nat.lt_add_right 1 (own_lt hA)
    obtain ⟨cc_hB, ff_hB⟩ := own_cells hB; have zz_hB := own_lt hB; have zy_hB := Nat.lt_add_right 1 (own_lt hB)
    clear hb
    go_wp2_with fail
    go_wp2_with (first | (go_at_call 15; refine (slabelFlow_any _ _ _ _ _).mono ?_; rintro e w' ⟨rfl, hb⟩; (try clear cc_hA ff_hA); (try clear zz_hA zy_hA); (try clear cc_hB ff_hB); (try clear zz_hB zy_hB); have zt := tt.size; (replace tt : Below w.heap.size w w' := by (refine Below.trans ?_ (hb.mono ?_)); (all_goals (repeat (first | exact tt | (refine Below.alloc ?_ ?_ _) | (refine Below.setCell ?_ ?_ _) | refine Below.drew ?_)); (all_goals (first | omega | (simp <;> omega))))); clear zt; replace hA := own_below hb (by repeat (first | exact hA | apply own_alloc)); replace hB := own_below hb (by repeat (first | exact hB | apply own_alloc)); obtain ⟨cc_hA, ff_hA⟩ := own_cells hA; have zz_hA := own_lt hA; have zy_hA := Nat.lt_add_right 1 (own_lt hA); obtain ⟨cc_hB, ff_hB⟩ := own_cells hB; have zz_hB := own_lt hB; have zy_hB := Nat.lt_add_right 1 (own_lt hB); clear hb) | (go_at_call 26; refine (slabelOk_any _ _ _).mono ?_; rintro e w' ⟨rfl, hb⟩; (try clear cc_hA ff_hA); (try clear zz_hA zy_hA); (try clear cc_hB ff_hB); (try clear zz_hB zy_hB); have zt := tt.size; (replace tt : Below w.heap.size w w' := by (refine Below.trans ?_ (hb.mono ?_)); (all_goals (repeat (first | exact tt | (refine Below.alloc ?_ ?_ _) | (refine Below.setCell ?_ ?_ _) | refine Below.drew ?_)); (all_goals (first | omega | (simp <;> omega))))); clear zt; replace hA := own_below hb (by repeat (first | exact hA | apply own_alloc)); replace hB := own_below hb (by repeat (first | exact hB | apply own_alloc)); obtain ⟨cc_hA, ff_hA⟩ := own_cells hA; have zz_hA := own_lt hA; have zy_hA := Nat.lt_add_right 1 (own_lt hA); obtain ⟨cc_hB, ff_hB⟩ := own_cells hB; have zz_hB := own_lt hB; have zy_hB := Nat.lt_add_right 1 (own_lt hB); clear hb))
    refine (ldLabel_any len' (by omega) _).mono ?_
    rintro e w' ⟨rfl, hb⟩
    (try clear cc_hA ff_hA); (try clear zz_hA zy_hA)
    (try clear cc_hB ff_hB); (try clear zz_hB zy_hB)
    have zt := tt.size
    replace tt : Below w.heap.size w w' := by (refine Below.trans ?_ (hb.mono ?_)); (all_goals (repeat (first | exact tt | (refine Below.alloc ?_ ?_ _) | (refine Below.setCell ?_ ?_ _) | refine Below.drew ?_)); (all_goals (first | omega | (simp <;> omega))))
    clear zt
    replace hA := own_below hb (by repeat (first | exact hA | apply own_alloc))
    replace hB := own_below hb (by repeat (first | exact hB | apply own_alloc))
    obtain ⟨cc_hA, ff_hA⟩ := own_cells hA; have zz_hA := own_lt hA; have zy_hA := Nat.lt_add_right 1 (own_lt hA)
    obtain ⟨cc_hB, ff_hB⟩ := own_cells hB; have zz_hB := own_lt hB; have zy_hB := Nat.lt_add_right 1 (own_lt hB)
    clear hb
    have hC := own_new w' (.cells #[.int .i64 ((len' : Int) % 4), .int .i64 ((len' : Int) / 4 % 4)] 25)
    go_wp2_with (first | (go_at_call 17; refine (labelFlow_any _ _ _ _ _).mono ?_; rintro e w' ⟨rfl, hb⟩; (try clear cc_hA ff_hA); (try clear zz_hA zy_hA); (try clear cc_hB ff_hB); (try clear zz_hB zy_hB); (try clear cc_hC ff_hC); (try clear zz_hC zy_hC); have zt := tt.size; (replace tt : Below w.heap.size w w' := by (refine Below.trans ?_ (hb.mono ?_)); (all_goals (repeat (first | exact tt | (refine Below.alloc ?_ ?_ _) | (refine Below.setCell ?_ ?_ _) | refine Below.drew ?_)); (all_goals (first | omega | (simp <;> omega))))); clear zt; replace hA := own_below hb (by repeat (first | exact hA | apply own_alloc)); replace hB := own_below hb (by repeat (first | exact hB | apply own_alloc)); replace hC := own_below hb (by repeat (first | exact hC | apply own_alloc)); obtain ⟨cc_hA, ff_hA⟩ := own_cells hA; have zz_hA := own_lt hA; have zy_hA := Nat.lt_add_right 1 (own_lt hA); obtain ⟨cc_hB, ff_hB⟩ := own_cells hB; have zz_hB := own_lt hB; have zy_hB := Nat.lt_add_right 1 (own_lt hB); obtain ⟨cc_hC, ff_hC⟩ := own_cells hC; have zz_hC := own_lt hC; have zy_hC := Nat.lt_add_right 1 (own_lt hC); clear hb))
    refine named (p := fun W => Code.wp _ _ _ _ W) _ ?_
    intro W hW
    (try clear cc_hA ff_hA); (try clear zz_hA zy_hA)
    (try clear cc_hB ff_hB); (try clear zz_hB zy_hB)
    (try clear cc_hC ff_hC); (try clear zz_hC zy_hC)
    have zt := tt.size
    replace tt : Below w.heap.size w W := by
      rw [← hW]
      (repeat (first | exact tt | (refine Below.alloc ?_ ?_ _) | (refine Below.setCell ?_ ?_ _) | refine Below.drew ?_)); (all_goals (first | omega | (simp <;> omega)))
    replace hA := own_eq hW (by repeat (first | exact hA | apply own_alloc))
    replace hB := own_eq hW (by repeat (first | exact hB | apply own_alloc))
    replace hC := own_eq hW (by repeat (first | exact hC | apply own_alloc))
    clear hW zt
    refine wp_region_quiet_below (by kernel_rfl) (by kernel_rfl) ?_
    repeat (first
      | (refine qskip rfl (fun K hK => ?_); go_simp; refine hK _ ?_; clear hK K)
      | (apply qval rfl; (case h => (intro u hu; obtain ⟨_, _⟩ := own_cells (own_below hu hA); obtain ⟨_, _⟩ := own_cells (own_below hu hB); obtain ⟨_, _⟩ := own_cells (own_below hu hC); go_simp; exact rfl)); (intro K hK; go_simp; refine hK _ ?_; clear hK K))
      | (apply qcall rfl; (case h => (intro u hu; go_simp; exact ⟨rfl, rfl⟩)); (case hc => (intro u hu; exact Calls.in_below hu (labelFlow_any _ _ _ _ _))); (intro K hK; go_simp; refine hK _ ?_; clear hK K)))
    refine wpQuiet_nil ?_
    intro w' hu
    replace tt := tt.trans (hu.mono tt.size)
    replace hA := own_below hu hA
    replace hB := own_below hu hB
    replace hC := own_below hu hC
    obtain ⟨cc_hA, ff_hA⟩ := own_cells hA; have zz_hA := own_lt hA; have zy_hA := Nat.lt_add_right 1 (own_lt hA)
    obtain ⟨cc_hB, ff_hB⟩ := own_cells hB; have zz_hB := own_lt hB; have zy_hB := Nat.lt_add_right 1 (own_lt hB)
    obtain ⟨cc_hC, ff_hC⟩ := own_cells hC; have zz_hC := own_lt hC; have zy_hC := Nat.lt_add_right 1 (own_lt hC)
    clear hu
    go_wp2_with fail
    go_ret
    exact ⟨rfl, tt⟩
end Go.Proofs.Ytboajcaajccmdaa
