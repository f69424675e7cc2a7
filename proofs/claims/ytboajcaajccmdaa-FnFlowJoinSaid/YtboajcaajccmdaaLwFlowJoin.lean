/- The walk of the law FnFlowJoin, on drawn labels. No condition. -/
import Derived.Test.YtboajcaajccmdaaDrawLab2
import Derived.Test.YtboajcaajccmdaaLabPure
namespace Go.Proofs.Ytboajcaajccmdaa
open Go.RowKit
set_option linter.unusedVariables false

set_option maxHeartbeats 2000000 in
theorem fnFlowJoin_walk (w : World) (a : Option Addr) (len cap : Nat) (z : List Int) (hr : IsRow .u8 w a len cap z) :
    Calls Try.prog 14 #[.slice a len cap] w fun e w' => e = .returned (.bool true) ∧ Below w.heap.size w w' := by
  have t0 : Below w.heap.size w w := Below.refl _ _
  by_cases hl : 1048576 < len
  · go_enter Try.func14, Try.ntmps14
    go_wp2_with fail
    go_ret
    exact ⟨rfl, t0⟩
  go_enter Try.func14, Try.ntmps14
  go_wp2_with fail
  refine (drawLabelFlow_any _ _ _ _ _ hr).mono ?_
  rintro e w1 ⟨s1, v1, s2, v2, rfl, tt⟩
  clear hr t0 hl
  have hA := own_alloc (own_new w1 (.cells #[.int .i64 s1, .int .i64 v1] 25)) (.cells #[.int .i64 s2, .int .i64 v2] 25)
  have hB := own_new (w1.alloc (.cells #[.int .i64 s1, .int .i64 v1] 25)) (.cells #[.int .i64 s2, .int .i64 v2] 25)
  simp only [World.size_alloc] at hB
  cases e1 : lblOk s1 v1
  · have f1 : flowB s1 v1 s2 v2 = false := by simp [flowB, e1]
    go_wp2_with (first | (go_at_call 17; refine (labelFlow_any _ _ _ _ _).mono ?_; rintro e w' ⟨rfl, hb⟩; (try clear cc_hA ff_hA); (try clear zz_hA zy_hA); (try clear cc_hB ff_hB); (try clear zz_hB zy_hB); have zt := tt.size; (replace tt : Below w.heap.size w w' := by (refine Below.trans ?_ (hb.mono ?_)); (all_goals (repeat (first | exact tt | (refine Below.alloc ?_ ?_ _) | (refine Below.setCell ?_ ?_ _) | refine Below.drew ?_)); (all_goals (first | omega | (simp <;> omega))))); clear zt; replace hA := own_below hb (by repeat (first | exact hA | apply own_alloc)); replace hB := own_below hb (by repeat (first | exact hB | apply own_alloc)); obtain ⟨cc_hA, ff_hA⟩ := own_cells hA; have zz_hA := own_lt hA; have zy_hA := Nat.lt_add_right 1 (own_lt hA); obtain ⟨cc_hB, ff_hB⟩ := own_cells hB; have zz_hB := own_lt hB; have zy_hB := Nat.lt_add_right 1 (own_lt hB); clear hb) | (go_at_call 15; refine (slabelFlow_any _ _ _ _ _).mono ?_; rintro e w' ⟨rfl, hb⟩; (try clear cc_hA ff_hA); (try clear zz_hA zy_hA); (try clear cc_hB ff_hB); (try clear zz_hB zy_hB); have zt := tt.size; (replace tt : Below w.heap.size w w' := by (refine Below.trans ?_ (hb.mono ?_)); (all_goals (repeat (first | exact tt | (refine Below.alloc ?_ ?_ _) | (refine Below.setCell ?_ ?_ _) | refine Below.drew ?_)); (all_goals (first | omega | (simp <;> omega))))); clear zt; replace hA := own_below hb (by repeat (first | exact hA | apply own_alloc)); replace hB := own_below hb (by repeat (first | exact hB | apply own_alloc)); obtain ⟨cc_hA, ff_hA⟩ := own_cells hA; have zz_hA := own_lt hA; have zy_hA := Nat.lt_add_right 1 (own_lt hA); obtain ⟨cc_hB, ff_hB⟩ := own_cells hB; have zz_hB := own_lt hB; have zy_hB := Nat.lt_add_right 1 (own_lt hB); clear hb) | (go_at_call 26; refine (slabelOk_any _ _ _).mono ?_; rintro e w' ⟨rfl, hb⟩; (try clear cc_hA ff_hA); (try clear zz_hA zy_hA); (try clear cc_hB ff_hB); (try clear zz_hB zy_hB); have zt := tt.size; (replace tt : Below w.heap.size w w' := by (refine Below.trans ?_ (hb.mono ?_)); (all_goals (repeat (first | exact tt | (refine Below.alloc ?_ ?_ _) | (refine Below.setCell ?_ ?_ _) | refine Below.drew ?_)); (all_goals (first | omega | (simp <;> omega))))); clear zt; replace hA := own_below hb (by repeat (first | exact hA | apply own_alloc)); replace hB := own_below hb (by repeat (first | exact hB | apply own_alloc)); obtain ⟨cc_hA, ff_hA⟩ := own_cells hA; have zz_hA := own_lt hA; have zy_hA := Nat.lt_add_right 1 (own_lt hA); obtain ⟨cc_hB, ff_hB⟩ := own_cells hB; have zz_hB := own_lt hB; have zy_hB := Nat.lt_add_right 1 (own_lt hB); clear hb))
    all_goals
      go_ret
      exact ⟨rfl, tt⟩
  cases e2 : lblOk s2 v2
  · have f1 : flowB s1 v1 s2 v2 = false := by simp [flowB, e2]
    go_wp2_with (first | (go_at_call 17; refine (labelFlow_any _ _ _ _ _).mono ?_; rintro e w' ⟨rfl, hb⟩; (try clear cc_hA ff_hA); (try clear zz_hA zy_hA); (try clear cc_hB ff_hB); (try clear zz_hB zy_hB); have zt := tt.size; (replace tt : Below w.heap.size w w' := by (refine Below.trans ?_ (hb.mono ?_)); (all_goals (repeat (first | exact tt | (refine Below.alloc ?_ ?_ _) | (refine Below.setCell ?_ ?_ _) | refine Below.drew ?_)); (all_goals (first | omega | (simp <;> omega))))); clear zt; replace hA := own_below hb (by repeat (first | exact hA | apply own_alloc)); replace hB := own_below hb (by repeat (first | exact hB | apply own_alloc)); obtain ⟨cc_hA, ff_hA⟩ := own_cells hA; have zz_hA := own_lt hA; have zy_hA := Nat.lt_add_right 1 (own_lt hA); obtain ⟨cc_hB, ff_hB⟩ := own_cells hB; have zz_hB := own_lt hB; have zy_hB := Nat.lt_add_right 1 (own_lt hB); clear hb) | (go_at_call 15; refine (slabelFlow_any _ _ _ _ _).mono ?_; rintro e w' ⟨rfl, hb⟩; (try clear cc_hA ff_hA); (try clear zz_hA zy_hA); (try clear cc_hB ff_hB); (try clear zz_hB zy_hB); have zt := tt.size; (replace tt : Below w.heap.size w w' := by (refine Below.trans ?_ (hb.mono ?_)); (all_goals (repeat (first | exact tt | (refine Below.alloc ?_ ?_ _) | (refine Below.setCell ?_ ?_ _) | refine Below.drew ?_)); (all_goals (first | omega | (simp <;> omega))))); clear zt; replace hA := own_below hb (by repeat (first | exact hA | apply own_alloc)); replace hB := own_below hb (by repeat (first | exact hB | apply own_alloc)); obtain ⟨cc_hA, ff_hA⟩ := own_cells hA; have zz_hA := own_lt hA; have zy_hA := Nat.lt_add_right 1 (own_lt hA); obtain ⟨cc_hB, ff_hB⟩ := own_cells hB; have zz_hB := own_lt hB; have zy_hB := Nat.lt_add_right 1 (own_lt hB); clear hb) | (go_at_call 26; refine (slabelOk_any _ _ _).mono ?_; rintro e w' ⟨rfl, hb⟩; (try clear cc_hA ff_hA); (try clear zz_hA zy_hA); (try clear cc_hB ff_hB); (try clear zz_hB zy_hB); have zt := tt.size; (replace tt : Below w.heap.size w w' := by (refine Below.trans ?_ (hb.mono ?_)); (all_goals (repeat (first | exact tt | (refine Below.alloc ?_ ?_ _) | (refine Below.setCell ?_ ?_ _) | refine Below.drew ?_)); (all_goals (first | omega | (simp <;> omega))))); clear zt; replace hA := own_below hb (by repeat (first | exact hA | apply own_alloc)); replace hB := own_below hb (by repeat (first | exact hB | apply own_alloc)); obtain ⟨cc_hA, ff_hA⟩ := own_cells hA; have zz_hA := own_lt hA; have zy_hA := Nat.lt_add_right 1 (own_lt hA); obtain ⟨cc_hB, ff_hB⟩ := own_cells hB; have zz_hB := own_lt hB; have zy_hB := Nat.lt_add_right 1 (own_lt hB); clear hb))
    all_goals
      go_ret
      exact ⟨rfl, tt⟩
  have b1 := lblOk_bd e1
  have b2 := lblOk_bd e2
  have p1 : flowB s1 v1 s2 v2 = (subB s1 s2 && subB v2 v1) := flowB_eq e1 e2
  have p2 : joinS s1 v1 s2 v2 = orI s1 s2 := joinS_eq e1 e2
  have p3 : joinV s1 v1 s2 v2 = andI v1 v2 := joinV_eq e1 e2
  have p4 : meetS s1 v1 s2 v2 = andI s1 s2 := meetS_eq e1 e2
  have p5 : meetV s1 v1 s2 v2 = orI v1 v2 := meetV_eq e1 e2
  have p6 : subB s1 s2 = decide (orI s1 s2 = s2) := sub_iff_or (by omega) (by omega) (by omega) (by omega)
  have p7 : subB s1 s2 = decide (andI s1 s2 = s1) := sub_iff_and (by omega) (by omega) (by omega) (by omega)
  have p8 : subB v2 v1 = decide (orI v2 v1 = v1) := sub_iff_or (by omega) (by omega) (by omega) (by omega)
  have p9 : subB v2 v1 = decide (andI v2 v1 = v2) := sub_iff_and (by omega) (by omega) (by omega) (by omega)
  rw [or_comm] at p8
  rw [and_comm'] at p9
  cases e3 : subB s1 s2
  · have f1 : flowB s1 v1 s2 v2 = false := by simp [p1, e3]
    have q1 : ¬ joinS s1 v1 s2 v2 = s2 := by rw [p2]; intro h; simp [h, e3] at p6
    have q2 : ¬ meetS s1 v1 s2 v2 = s1 := by rw [p4]; intro h; simp [h, e3] at p7
    clear p1 p2 p3 p4 p5 p6 p7 p8 p9
    go_wp2_with (first | (go_at_call 17; refine (labelFlow_any _ _ _ _ _).mono ?_; rintro e w' ⟨rfl, hb⟩; (try clear cc_hA ff_hA); (try clear zz_hA zy_hA); (try clear cc_hB ff_hB); (try clear zz_hB zy_hB); have zt := tt.size; (replace tt : Below w.heap.size w w' := by (refine Below.trans ?_ (hb.mono ?_)); (all_goals (repeat (first | exact tt | (refine Below.alloc ?_ ?_ _) | (refine Below.setCell ?_ ?_ _) | refine Below.drew ?_)); (all_goals (first | omega | (simp <;> omega))))); clear zt; replace hA := own_below hb (by repeat (first | exact hA | apply own_alloc)); replace hB := own_below hb (by repeat (first | exact hB | apply own_alloc)); obtain ⟨cc_hA, ff_hA⟩ := own_cells hA; have zz_hA := own_lt hA; have zy_hA := Nat.lt_add_right 1 (own_lt hA); obtain ⟨cc_hB, ff_hB⟩ := own_cells hB; have zz_hB := own_lt hB; have zy_hB := Nat.lt_add_right 1 (own_lt hB); clear hb) | (go_at_call 15; refine (slabelFlow_any _ _ _ _ _).mono ?_; rintro e w' ⟨rfl, hb⟩; (try clear cc_hA ff_hA); (try clear zz_hA zy_hA); (try clear cc_hB ff_hB); (try clear zz_hB zy_hB); have zt := tt.size; (replace tt : Below w.heap.size w w' := by (refine Below.trans ?_ (hb.mono ?_)); (all_goals (repeat (first | exact tt | (refine Below.alloc ?_ ?_ _) | (refine Below.setCell ?_ ?_ _) | refine Below.drew ?_)); (all_goals (first | omega | (simp <;> omega))))); clear zt; replace hA := own_below hb (by repeat (first | exact hA | apply own_alloc)); replace hB := own_below hb (by repeat (first | exact hB | apply own_alloc)); obtain ⟨cc_hA, ff_hA⟩ := own_cells hA; have zz_hA := own_lt hA; have zy_hA := Nat.lt_add_right 1 (own_lt hA); obtain ⟨cc_hB, ff_hB⟩ := own_cells hB; have zz_hB := own_lt hB; have zy_hB := Nat.lt_add_right 1 (own_lt hB); clear hb) | (go_at_call 26; refine (slabelOk_any _ _ _).mono ?_; rintro e w' ⟨rfl, hb⟩; (try clear cc_hA ff_hA); (try clear zz_hA zy_hA); (try clear cc_hB ff_hB); (try clear zz_hB zy_hB); have zt := tt.size; (replace tt : Below w.heap.size w w' := by (refine Below.trans ?_ (hb.mono ?_)); (all_goals (repeat (first | exact tt | (refine Below.alloc ?_ ?_ _) | (refine Below.setCell ?_ ?_ _) | refine Below.drew ?_)); (all_goals (first | omega | (simp <;> omega))))); clear zt; replace hA := own_below hb (by repeat (first | exact hA | apply own_alloc)); replace hB := own_below hb (by repeat (first | exact hB | apply own_alloc)); obtain ⟨cc_hA, ff_hA⟩ := own_cells hA; have zz_hA := own_lt hA; have zy_hA := Nat.lt_add_right 1 (own_lt hA); obtain ⟨cc_hB, ff_hB⟩ := own_cells hB; have zz_hB := own_lt hB; have zy_hB := Nat.lt_add_right 1 (own_lt hB); clear hb))
    refine named (p := fun W => Code.wp _ _ _ _ W) _ ?_
    intro W hW
    (try clear cc_hA ff_hA); (try clear zz_hA zy_hA)
    (try clear cc_hB ff_hB); (try clear zz_hB zy_hB)
    have zt := tt.size
    replace tt : Below w.heap.size w W := by
      rw [← hW]
      (repeat (first | exact tt | (refine Below.alloc ?_ ?_ _) | (refine Below.setCell ?_ ?_ _) | refine Below.drew ?_)); (all_goals (first | omega | (simp <;> omega)))
    replace hA := own_eq hW (by repeat (first | exact hA | apply own_alloc))
    replace hB := own_eq hW (by repeat (first | exact hB | apply own_alloc))
    clear hW zt
    refine wp_region_quiet_below (by kernel_rfl) (by kernel_rfl) ?_
    repeat (first
      | (refine qskip rfl (fun K hK => ?_); go_simp; refine hK _ ?_; clear hK K)
      | (apply qval rfl; (case h => (intro u hu; obtain ⟨_, _⟩ := own_cells (own_below hu hA); obtain ⟨_, _⟩ := own_cells (own_below hu hB); go_simp; exact rfl)); (intro K hK; go_simp; refine hK _ ?_; clear hK K))
      | (apply qcall rfl; (case h => (intro u hu; go_simp; exact ⟨rfl, rfl⟩)); (case hc => (intro u hu; exact Calls.in_below hu (labelJoin_any _ _ _ _ _))); (intro K hK; go_simp; refine hK _ ?_; clear hK K))
      | (apply qcall rfl; (case h => (intro u hu; go_simp; exact ⟨rfl, rfl⟩)); (case hc => (intro u hu; exact Calls.in_below hu (labelMeet_any _ _ _ _ _))); (intro K hK; go_simp; refine hK _ ?_; clear hK K)))
    refine wpQuiet_nil ?_
    intro w' hu
    replace tt := tt.trans (hu.mono tt.size)
    replace hA := own_below hu hA
    replace hB := own_below hu hB
    obtain ⟨cc_hA, ff_hA⟩ := own_cells hA; have zz_hA := own_lt hA; have zy_hA := Nat.lt_add_right 1 (own_lt hA)
    obtain ⟨cc_hB, ff_hB⟩ := own_cells hB; have zz_hB := own_lt hB; have zy_hB := Nat.lt_add_right 1 (own_lt hB)
    clear hu
    go_wp2_with fail
    go_ret
    exact ⟨rfl, tt⟩
  have q1 : joinS s1 v1 s2 v2 = s2 := by rw [p2]; rw [e3] at p6; simpa using p6.symm
  have q2 : meetS s1 v1 s2 v2 = s1 := by rw [p4]; rw [e3] at p7; simpa using p7.symm
  cases e4 : subB v2 v1
  · have f1 : flowB s1 v1 s2 v2 = false := by simp [p1, e4]
    have q3 : ¬ joinV s1 v1 s2 v2 = v2 := by rw [p3]; intro h; simp [h, e4] at p9
    have q4 : ¬ meetV s1 v1 s2 v2 = v1 := by rw [p5]; intro h; simp [h, e4] at p8
    clear p1 p2 p3 p4 p5 p6 p7 p8 p9
    go_wp2_with (first | (go_at_call 17; refine (labelFlow_any _ _ _ _ _).mono ?_; rintro e w' ⟨rfl, hb⟩; (try clear cc_hA ff_hA); (try clear zz_hA zy_hA); (try clear cc_hB ff_hB); (try clear zz_hB zy_hB); have zt := tt.size; (replace tt : Below w.heap.size w w' := by (refine Below.trans ?_ (hb.mono ?_)); (all_goals (repeat (first | exact tt | (refine Below.alloc ?_ ?_ _) | (refine Below.setCell ?_ ?_ _) | refine Below.drew ?_)); (all_goals (first | omega | (simp <;> omega))))); clear zt; replace hA := own_below hb (by repeat (first | exact hA | apply own_alloc)); replace hB := own_below hb (by repeat (first | exact hB | apply own_alloc)); obtain ⟨cc_hA, ff_hA⟩ := own_cells hA; have zz_hA := own_lt hA; have zy_hA := Nat.lt_add_right 1 (own_lt hA); obtain ⟨cc_hB, ff_hB⟩ := own_cells hB; have zz_hB := own_lt hB; have zy_hB := Nat.lt_add_right 1 (own_lt hB); clear hb) | (go_at_call 15; refine (slabelFlow_any _ _ _ _ _).mono ?_; rintro e w' ⟨rfl, hb⟩; (try clear cc_hA ff_hA); (try clear zz_hA zy_hA); (try clear cc_hB ff_hB); (try clear zz_hB zy_hB); have zt := tt.size; (replace tt : Below w.heap.size w w' := by (refine Below.trans ?_ (hb.mono ?_)); (all_goals (repeat (first | exact tt | (refine Below.alloc ?_ ?_ _) | (refine Below.setCell ?_ ?_ _) | refine Below.drew ?_)); (all_goals (first | omega | (simp <;> omega))))); clear zt; replace hA := own_below hb (by repeat (first | exact hA | apply own_alloc)); replace hB := own_below hb (by repeat (first | exact hB | apply own_alloc)); obtain ⟨cc_hA, ff_hA⟩ := own_cells hA; have zz_hA := own_lt hA; have zy_hA := Nat.lt_add_right 1 (own_lt hA); obtain ⟨cc_hB, ff_hB⟩ := own_cells hB; have zz_hB := own_lt hB; have zy_hB := Nat.lt_add_right 1 (own_lt hB); clear hb) | (go_at_call 26; refine (slabelOk_any _ _ _).mono ?_; rintro e w' ⟨rfl, hb⟩; (try clear cc_hA ff_hA); (try clear zz_hA zy_hA); (try clear cc_hB ff_hB); (try clear zz_hB zy_hB); have zt := tt.size; (replace tt : Below w.heap.size w w' := by (refine Below.trans ?_ (hb.mono ?_)); (all_goals (repeat (first | exact tt | (refine Below.alloc ?_ ?_ _) | (refine Below.setCell ?_ ?_ _) | refine Below.drew ?_)); (all_goals (first | omega | (simp <;> omega))))); clear zt; replace hA := own_below hb (by repeat (first | exact hA | apply own_alloc)); replace hB := own_below hb (by repeat (first | exact hB | apply own_alloc)); obtain ⟨cc_hA, ff_hA⟩ := own_cells hA; have zz_hA := own_lt hA; have zy_hA := Nat.lt_add_right 1 (own_lt hA); obtain ⟨cc_hB, ff_hB⟩ := own_cells hB; have zz_hB := own_lt hB; have zy_hB := Nat.lt_add_right 1 (own_lt hB); clear hb))
    refine named (p := fun W => Code.wp _ _ _ _ W) _ ?_
    intro W hW
    (try clear cc_hA ff_hA); (try clear zz_hA zy_hA)
    (try clear cc_hB ff_hB); (try clear zz_hB zy_hB)
    have zt := tt.size
    replace tt : Below w.heap.size w W := by
      rw [← hW]
      (repeat (first | exact tt | (refine Below.alloc ?_ ?_ _) | (refine Below.setCell ?_ ?_ _) | refine Below.drew ?_)); (all_goals (first | omega | (simp <;> omega)))
    replace hA := own_eq hW (by repeat (first | exact hA | apply own_alloc))
    replace hB := own_eq hW (by repeat (first | exact hB | apply own_alloc))
    clear hW zt
    refine wp_region_quiet_below (by kernel_rfl) (by kernel_rfl) ?_
    repeat (first
      | (refine qskip rfl (fun K hK => ?_); go_simp; refine hK _ ?_; clear hK K)
      | (apply qval rfl; (case h => (intro u hu; obtain ⟨_, _⟩ := own_cells (own_below hu hA); obtain ⟨_, _⟩ := own_cells (own_below hu hB); go_simp; exact rfl)); (intro K hK; go_simp; refine hK _ ?_; clear hK K))
      | (apply qcall rfl; (case h => (intro u hu; go_simp; exact ⟨rfl, rfl⟩)); (case hc => (intro u hu; exact Calls.in_below hu (labelJoin_any _ _ _ _ _))); (intro K hK; go_simp; refine hK _ ?_; clear hK K))
      | (apply qcall rfl; (case h => (intro u hu; go_simp; exact ⟨rfl, rfl⟩)); (case hc => (intro u hu; exact Calls.in_below hu (labelMeet_any _ _ _ _ _))); (intro K hK; go_simp; refine hK _ ?_; clear hK K)))
    refine wpQuiet_nil ?_
    intro w' hu
    replace tt := tt.trans (hu.mono tt.size)
    replace hA := own_below hu hA
    replace hB := own_below hu hB
    obtain ⟨cc_hA, ff_hA⟩ := own_cells hA; have zz_hA := own_lt hA; have zy_hA := Nat.lt_add_right 1 (own_lt hA)
    obtain ⟨cc_hB, ff_hB⟩ := own_cells hB; have zz_hB := own_lt hB; have zy_hB := Nat.lt_add_right 1 (own_lt hB)
    clear hu
    go_wp2_with fail
    go_ret
    exact ⟨rfl, tt⟩
  · have f1 : flowB s1 v1 s2 v2 = true := by simp [p1, e3, e4]
    have q3 : joinV s1 v1 s2 v2 = v2 := by rw [p3]; rw [e4] at p9; simpa using p9.symm
    have q4 : meetV s1 v1 s2 v2 = v1 := by rw [p5]; rw [e4] at p8; simpa using p8.symm
    clear p1 p2 p3 p4 p5 p6 p7 p8 p9
    go_wp2_with (first | (go_at_call 17; refine (labelFlow_any _ _ _ _ _).mono ?_; rintro e w' ⟨rfl, hb⟩; (try clear cc_hA ff_hA); (try clear zz_hA zy_hA); (try clear cc_hB ff_hB); (try clear zz_hB zy_hB); have zt := tt.size; (replace tt : Below w.heap.size w w' := by (refine Below.trans ?_ (hb.mono ?_)); (all_goals (repeat (first | exact tt | (refine Below.alloc ?_ ?_ _) | (refine Below.setCell ?_ ?_ _) | refine Below.drew ?_)); (all_goals (first | omega | (simp <;> omega))))); clear zt; replace hA := own_below hb (by repeat (first | exact hA | apply own_alloc)); replace hB := own_below hb (by repeat (first | exact hB | apply own_alloc)); obtain ⟨cc_hA, ff_hA⟩ := own_cells hA; have zz_hA := own_lt hA; have zy_hA := Nat.lt_add_right 1 (own_lt hA); obtain ⟨cc_hB, ff_hB⟩ := own_cells hB; have zz_hB := own_lt hB; have zy_hB := Nat.lt_add_right 1 (own_lt hB); clear hb) | (go_at_call 15; refine (slabelFlow_any _ _ _ _ _).mono ?_; rintro e w' ⟨rfl, hb⟩; (try clear cc_hA ff_hA); (try clear zz_hA zy_hA); (try clear cc_hB ff_hB); (try clear zz_hB zy_hB); have zt := tt.size; (replace tt : Below w.heap.size w w' := by (refine Below.trans ?_ (hb.mono ?_)); (all_goals (repeat (first | exact tt | (refine Below.alloc ?_ ?_ _) | (refine Below.setCell ?_ ?_ _) | refine Below.drew ?_)); (all_goals (first | omega | (simp <;> omega))))); clear zt; replace hA := own_below hb (by repeat (first | exact hA | apply own_alloc)); replace hB := own_below hb (by repeat (first | exact hB | apply own_alloc)); obtain ⟨cc_hA, ff_hA⟩ := own_cells hA; have zz_hA := own_lt hA; have zy_hA := Nat.lt_add_right 1 (own_lt hA); obtain ⟨cc_hB, ff_hB⟩ := own_cells hB; have zz_hB := own_lt hB; have zy_hB := Nat.lt_add_right 1 (own_lt hB); clear hb) | (go_at_call 26; refine (slabelOk_any _ _ _).mono ?_; rintro e w' ⟨rfl, hb⟩; (try clear cc_hA ff_hA); (try clear zz_hA zy_hA); (try clear cc_hB ff_hB); (try clear zz_hB zy_hB); have zt := tt.size; (replace tt : Below w.heap.size w w' := by (refine Below.trans ?_ (hb.mono ?_)); (all_goals (repeat (first | exact tt | (refine Below.alloc ?_ ?_ _) | (refine Below.setCell ?_ ?_ _) | refine Below.drew ?_)); (all_goals (first | omega | (simp <;> omega))))); clear zt; replace hA := own_below hb (by repeat (first | exact hA | apply own_alloc)); replace hB := own_below hb (by repeat (first | exact hB | apply own_alloc)); obtain ⟨cc_hA, ff_hA⟩ := own_cells hA; have zz_hA := own_lt hA; have zy_hA := Nat.lt_add_right 1 (own_lt hA); obtain ⟨cc_hB, ff_hB⟩ := own_cells hB; have zz_hB := own_lt hB; have zy_hB := Nat.lt_add_right 1 (own_lt hB); clear hb))
    refine named (p := fun W => Code.wp _ _ _ _ W) _ ?_
    intro W hW
    (try clear cc_hA ff_hA); (try clear zz_hA zy_hA)
    (try clear cc_hB ff_hB); (try clear zz_hB zy_hB)
    have zt := tt.size
    replace tt : Below w.heap.size w W := by
      rw [← hW]
      (repeat (first | exact tt | (refine Below.alloc ?_ ?_ _) | (refine Below.setCell ?_ ?_ _) | refine Below.drew ?_)); (all_goals (first | omega | (simp <;> omega)))
    replace hA := own_eq hW (by repeat (first | exact hA | apply own_alloc))
    replace hB := own_eq hW (by repeat (first | exact hB | apply own_alloc))
    clear hW zt
    refine wp_region_quiet_below (by kernel_rfl) (by kernel_rfl) ?_
    repeat (first
      | (refine qskip rfl (fun K hK => ?_); go_simp; refine hK _ ?_; clear hK K)
      | (apply qval rfl; (case h => (intro u hu; obtain ⟨_, _⟩ := own_cells (own_below hu hA); obtain ⟨_, _⟩ := own_cells (own_below hu hB); go_simp; exact rfl)); (intro K hK; go_simp; refine hK _ ?_; clear hK K))
      | (apply qcall rfl; (case h => (intro u hu; go_simp; exact ⟨rfl, rfl⟩)); (case hc => (intro u hu; exact Calls.in_below hu (labelJoin_any _ _ _ _ _))); (intro K hK; go_simp; refine hK _ ?_; clear hK K))
      | (apply qcall rfl; (case h => (intro u hu; go_simp; exact ⟨rfl, rfl⟩)); (case hc => (intro u hu; exact Calls.in_below hu (labelMeet_any _ _ _ _ _))); (intro K hK; go_simp; refine hK _ ?_; clear hK K)))
    refine wpQuiet_nil ?_
    intro w' hu
    replace tt := tt.trans (hu.mono tt.size)
    replace hA := own_below hu hA
    replace hB := own_below hu hB
    obtain ⟨cc_hA, ff_hA⟩ := own_cells hA; have zz_hA := own_lt hA; have zy_hA := Nat.lt_add_right 1 (own_lt hA)
    obtain ⟨cc_hB, ff_hB⟩ := own_cells hB; have zz_hB := own_lt hB; have zy_hB := Nat.lt_add_right 1 (own_lt hB)
    clear hu
    go_wp2_with fail
    go_ret
    exact ⟨rfl, tt⟩
end Go.Proofs.Ytboajcaajccmdaa
