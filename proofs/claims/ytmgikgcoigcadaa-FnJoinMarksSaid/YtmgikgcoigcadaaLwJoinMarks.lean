/- The walk of the law FnJoinMarks, on drawn labels. No condition. -/
import Derived.Test.YtmgikgcoigcadaaDrawLab2
import Derived.Test.YtmgikgcoigcadaaLabPure
import Derived.LoopN
import Derived.BigQuiet
import Derived.WalkSmall
namespace Go.Proofs.Ytmgikgcoigcadaa
open Go.RowKit
set_option linter.unusedVariables false

set_option maxHeartbeats 2000000 in
theorem fnJoinMarks_walk (w : World) (a : Option Addr) (len cap : Nat) (z : List Int) (hr : IsRow .u8 w a len cap z) :
    Calls Try.prog 4 #[.slice a len cap] w fun e w' => e = .returned (.bool true) ∧ Below w.heap.size w w' := by
  have t0 : Below w.heap.size w w := Below.refl _ _
  by_cases hl : 1048576 < len
  · go_enter Try.func4, Try.ntmps4
    go_wp2_with fail
    go_ret
    exact ⟨rfl, t0⟩
  go_enter Try.func4, Try.ntmps4
  go_wp2_with fail
  refine (drawLabelJoin_any _ _ _ _ _ hr).mono ?_
  rintro e w1 ⟨s1, v1, s2, v2, rfl, tt⟩
  clear hr t0 hl
  have hA := own_alloc (own_new w1 (.cells #[.int .i64 s1, .int .i64 v1] 23)) (.cells #[.int .i64 s2, .int .i64 v2] 23)
  have hB := own_new (w1.alloc (.cells #[.int .i64 s1, .int .i64 v1] 23)) (.cells #[.int .i64 s2, .int .i64 v2] 23)
  simp only [World.size_alloc] at hB
  cases e1 : lblOk s1 v1
  · go_wp2_with fail
    refine (labelJoin_any _ _ _ _ _).mono ?_
    rintro e w2 ⟨rfl, hb⟩
    have zt := tt.size
    replace tt : Below w.heap.size w w2 := by (refine Below.trans ?_ (hb.mono ?_)); (all_goals (repeat (first | exact tt | (refine Below.alloc ?_ ?_ _)))); (all_goals (first | omega | (simp <;> omega)))
    replace hA := own_below hb hA
    replace hB := own_below hb hB
    have hJ := own_new w2 (.cells #[.int .i64 (joinS s1 v1 s2 v2), .int .i64 (joinV s1 v1 s2 v2)] 23)
    clear zt hb
    obtain ⟨cc_hA, ff_hA⟩ := own_cells hA
    obtain ⟨cc_hB, ff_hB⟩ := own_cells hB
    go_wp2_with fail
    refine named (p := fun W => Code.wp _ _ _ _ W) _ ?_
    intro W hW
    (try clear cc_hA ff_hA); (try clear zz_hA zy_hA)
    (try clear cc_hB ff_hB); (try clear zz_hB zy_hB)
    (try clear cc_hJ ff_hJ); (try clear zz_hJ zy_hJ)
    have zt := tt.size
    replace tt : Below w.heap.size w W := by
      rw [← hW]
      (repeat (first | with_reducible exact tt | (with_reducible refine Below.setCell ?_ ?_ _) | (with_reducible refine Below.alloc ?_ ?_ _) | with_reducible refine Below.drew ?_)); (all_goals (first | omega | (simp <;> omega)))
    replace hA := own_eq hW (by repeat (first | exact hA | apply own_alloc))
    replace hB := own_eq hW (by repeat (first | exact hB | apply own_alloc))
    replace hJ := own_eq hW (by repeat (first | exact hJ | apply own_alloc))
    clear hW zt
    refine wp_region_quiet_below (by kernel_rfl) (by kernel_rfl) ?_
    repeat (first
      | (refine qskip rfl (fun K hK => ?_); go_simp; refine hK _ ?_; clear hK K)
      | (apply qval rfl; (case h => (intro u hu; obtain ⟨_, _⟩ := own_cells (own_below hu hA); obtain ⟨_, _⟩ := own_cells (own_below hu hB); obtain ⟨_, _⟩ := own_cells (own_below hu hJ); go_simp; exact rfl)); (intro K hK; go_simp; refine hK _ ?_; clear hK K))
      | (apply qcall rfl; (case h => (intro u hu; go_simp; exact ⟨rfl, rfl⟩)); (case hc => (intro u hu; with_reducible exact Calls.in_below hu (slabelJoin_any _ _ _ _ _))); (intro K hK; go_simp; refine hK _ ?_; clear hK K))
      | (apply qcall rfl; (case h => (intro u hu; go_simp; exact ⟨rfl, rfl⟩)); (case hc => (intro u hu; with_reducible exact Calls.in_below hu (slabelOk_any _ _ _))); (intro K hK; go_simp; refine hK _ ?_; clear hK K)))
    refine wpQuiet_nil ?_
    intro w' hu
    replace tt := tt.trans (hu.mono tt.size)
    replace hA := own_below hu hA
    replace hB := own_below hu hB
    replace hJ := own_below hu hJ
    obtain ⟨cc_hA, ff_hA⟩ := own_cells hA; have zz_hA := own_lt hA; have zy_hA := Nat.lt_add_right 1 (own_lt hA)
    obtain ⟨cc_hB, ff_hB⟩ := own_cells hB; have zz_hB := own_lt hB; have zy_hB := Nat.lt_add_right 1 (own_lt hB)
    obtain ⟨cc_hJ, ff_hJ⟩ := own_cells hJ; have zz_hJ := own_lt hJ; have zy_hJ := Nat.lt_add_right 1 (own_lt hJ)
    clear hu
    go_wp2_with fail
    refine named (p := fun W => Code.wp _ _ _ _ W) _ ?_
    intro W hW
    (try clear cc_hA ff_hA); (try clear zz_hA zy_hA)
    (try clear cc_hB ff_hB); (try clear zz_hB zy_hB)
    (try clear cc_hJ ff_hJ); (try clear zz_hJ zy_hJ)
    have zt := tt.size
    replace tt : Below w.heap.size w W := by
      rw [← hW]
      (repeat (first | with_reducible exact tt | (with_reducible refine Below.setCell ?_ ?_ _) | (with_reducible refine Below.alloc ?_ ?_ _) | with_reducible refine Below.drew ?_)); (all_goals (first | omega | (simp <;> omega)))
    replace hA := own_eq hW (by repeat (first | exact hA | apply own_alloc))
    replace hB := own_eq hW (by repeat (first | exact hB | apply own_alloc))
    replace hJ := own_eq hW (by repeat (first | exact hJ | apply own_alloc))
    clear hW zt
    refine wp_region_quiet_below (by kernel_rfl) (by kernel_rfl) ?_
    repeat (first
      | (refine qskip rfl (fun K hK => ?_); go_simp; refine hK _ ?_; clear hK K)
      | (apply qval rfl; (case h => (intro u hu; obtain ⟨_, _⟩ := own_cells (own_below hu hA); obtain ⟨_, _⟩ := own_cells (own_below hu hB); obtain ⟨_, _⟩ := own_cells (own_below hu hJ); go_simp; exact rfl)); (intro K hK; go_simp; refine hK _ ?_; clear hK K))
      | (apply qcall rfl; (case h => (intro u hu; go_simp; exact ⟨rfl, rfl⟩)); (case hc => (intro u hu; with_reducible exact Calls.in_below hu (slabelJoin_any _ _ _ _ _))); (intro K hK; go_simp; refine hK _ ?_; clear hK K)))
    refine wpQuiet_nil ?_
    intro w' hu
    replace tt := tt.trans (hu.mono tt.size)
    replace hA := own_below hu hA
    replace hB := own_below hu hB
    replace hJ := own_below hu hJ
    obtain ⟨cc_hA, ff_hA⟩ := own_cells hA; have zz_hA := own_lt hA; have zy_hA := Nat.lt_add_right 1 (own_lt hA)
    obtain ⟨cc_hB, ff_hB⟩ := own_cells hB; have zz_hB := own_lt hB; have zy_hB := Nat.lt_add_right 1 (own_lt hB)
    obtain ⟨cc_hJ, ff_hJ⟩ := own_cells hJ; have zz_hJ := own_lt hJ; have zy_hJ := Nat.lt_add_right 1 (own_lt hJ)
    clear hu
    go_wp2_with fail
    go_ret
    exact ⟨rfl, tt⟩
  cases e2 : lblOk s2 v2
  · go_wp2_with fail
    refine (labelJoin_any _ _ _ _ _).mono ?_
    rintro e w2 ⟨rfl, hb⟩
    have zt := tt.size
    replace tt : Below w.heap.size w w2 := by (refine Below.trans ?_ (hb.mono ?_)); (all_goals (repeat (first | exact tt | (refine Below.alloc ?_ ?_ _)))); (all_goals (first | omega | (simp <;> omega)))
    replace hA := own_below hb hA
    replace hB := own_below hb hB
    have hJ := own_new w2 (.cells #[.int .i64 (joinS s1 v1 s2 v2), .int .i64 (joinV s1 v1 s2 v2)] 23)
    clear zt hb
    obtain ⟨cc_hA, ff_hA⟩ := own_cells hA
    obtain ⟨cc_hB, ff_hB⟩ := own_cells hB
    go_wp2_with fail
    refine named (p := fun W => Code.wp _ _ _ _ W) _ ?_
    intro W hW
    (try clear cc_hA ff_hA); (try clear zz_hA zy_hA)
    (try clear cc_hB ff_hB); (try clear zz_hB zy_hB)
    (try clear cc_hJ ff_hJ); (try clear zz_hJ zy_hJ)
    have zt := tt.size
    replace tt : Below w.heap.size w W := by
      rw [← hW]
      (repeat (first | with_reducible exact tt | (with_reducible refine Below.setCell ?_ ?_ _) | (with_reducible refine Below.alloc ?_ ?_ _) | with_reducible refine Below.drew ?_)); (all_goals (first | omega | (simp <;> omega)))
    replace hA := own_eq hW (by repeat (first | exact hA | apply own_alloc))
    replace hB := own_eq hW (by repeat (first | exact hB | apply own_alloc))
    replace hJ := own_eq hW (by repeat (first | exact hJ | apply own_alloc))
    clear hW zt
    refine wp_region_quiet_below (by kernel_rfl) (by kernel_rfl) ?_
    repeat (first
      | (refine qskip rfl (fun K hK => ?_); go_simp; refine hK _ ?_; clear hK K)
      | (apply qval rfl; (case h => (intro u hu; obtain ⟨_, _⟩ := own_cells (own_below hu hA); obtain ⟨_, _⟩ := own_cells (own_below hu hB); obtain ⟨_, _⟩ := own_cells (own_below hu hJ); go_simp; exact rfl)); (intro K hK; go_simp; refine hK _ ?_; clear hK K))
      | (apply qcall rfl; (case h => (intro u hu; go_simp; exact ⟨rfl, rfl⟩)); (case hc => (intro u hu; with_reducible exact Calls.in_below hu (slabelJoin_any _ _ _ _ _))); (intro K hK; go_simp; refine hK _ ?_; clear hK K))
      | (apply qcall rfl; (case h => (intro u hu; go_simp; exact ⟨rfl, rfl⟩)); (case hc => (intro u hu; with_reducible exact Calls.in_below hu (slabelOk_any _ _ _))); (intro K hK; go_simp; refine hK _ ?_; clear hK K)))
    refine wpQuiet_nil ?_
    intro w' hu
    replace tt := tt.trans (hu.mono tt.size)
    replace hA := own_below hu hA
    replace hB := own_below hu hB
    replace hJ := own_below hu hJ
    obtain ⟨cc_hA, ff_hA⟩ := own_cells hA; have zz_hA := own_lt hA; have zy_hA := Nat.lt_add_right 1 (own_lt hA)
    obtain ⟨cc_hB, ff_hB⟩ := own_cells hB; have zz_hB := own_lt hB; have zy_hB := Nat.lt_add_right 1 (own_lt hB)
    obtain ⟨cc_hJ, ff_hJ⟩ := own_cells hJ; have zz_hJ := own_lt hJ; have zy_hJ := Nat.lt_add_right 1 (own_lt hJ)
    clear hu
    go_wp2_with fail
    refine named (p := fun W => Code.wp _ _ _ _ W) _ ?_
    intro W hW
    (try clear cc_hA ff_hA); (try clear zz_hA zy_hA)
    (try clear cc_hB ff_hB); (try clear zz_hB zy_hB)
    (try clear cc_hJ ff_hJ); (try clear zz_hJ zy_hJ)
    have zt := tt.size
    replace tt : Below w.heap.size w W := by
      rw [← hW]
      (repeat (first | with_reducible exact tt | (with_reducible refine Below.setCell ?_ ?_ _) | (with_reducible refine Below.alloc ?_ ?_ _) | with_reducible refine Below.drew ?_)); (all_goals (first | omega | (simp <;> omega)))
    replace hA := own_eq hW (by repeat (first | exact hA | apply own_alloc))
    replace hB := own_eq hW (by repeat (first | exact hB | apply own_alloc))
    replace hJ := own_eq hW (by repeat (first | exact hJ | apply own_alloc))
    clear hW zt
    refine wp_region_quiet_below (by kernel_rfl) (by kernel_rfl) ?_
    repeat (first
      | (refine qskip rfl (fun K hK => ?_); go_simp; refine hK _ ?_; clear hK K)
      | (apply qval rfl; (case h => (intro u hu; obtain ⟨_, _⟩ := own_cells (own_below hu hA); obtain ⟨_, _⟩ := own_cells (own_below hu hB); obtain ⟨_, _⟩ := own_cells (own_below hu hJ); go_simp; exact rfl)); (intro K hK; go_simp; refine hK _ ?_; clear hK K))
      | (apply qcall rfl; (case h => (intro u hu; go_simp; exact ⟨rfl, rfl⟩)); (case hc => (intro u hu; with_reducible exact Calls.in_below hu (slabelJoin_any _ _ _ _ _))); (intro K hK; go_simp; refine hK _ ?_; clear hK K)))
    refine wpQuiet_nil ?_
    intro w' hu
    replace tt := tt.trans (hu.mono tt.size)
    replace hA := own_below hu hA
    replace hB := own_below hu hB
    replace hJ := own_below hu hJ
    obtain ⟨cc_hA, ff_hA⟩ := own_cells hA; have zz_hA := own_lt hA; have zy_hA := Nat.lt_add_right 1 (own_lt hA)
    obtain ⟨cc_hB, ff_hB⟩ := own_cells hB; have zz_hB := own_lt hB; have zy_hB := Nat.lt_add_right 1 (own_lt hB)
    obtain ⟨cc_hJ, ff_hJ⟩ := own_cells hJ; have zz_hJ := own_lt hJ; have zy_hJ := Nat.lt_add_right 1 (own_lt hJ)
    clear hu
    go_wp2_with fail
    go_ret
    exact ⟨rfl, tt⟩
  obtain ⟨b11, b12, b13, b14⟩ := lblOk_bd e1
  obtain ⟨b21, b22, b23, b24⟩ := lblOk_bd e2
  have HA := labelJoin_any s1 v1 s2 v2
  have HB := slabelJoin_any s1 v1 s2 v2
  have HC := labelMeet_any s1 v1 s2 v2
  have p2 : joinS s1 v1 s2 v2 = orI s1 s2 := joinS_eq e1 e2
  have p3 : joinV s1 v1 s2 v2 = andI v1 v2 := joinV_eq e1 e2
  have p4 : meetS s1 v1 s2 v2 = andI s1 s2 := meetS_eq e1 e2
  have p5 : meetV s1 v1 s2 v2 = orI v1 v2 := meetV_eq e1 e2
  rw [p2, p3] at HA HB
  rw [p4, p5] at HC
  clear p2 p3 p4 p5
  have o1 : orI s1 s2 % 2 = max (s1 % 2) (s2 % 2) ∧ orI s1 s2 / 2 = max (s1 / 2) (s2 / 2) := by unfold orI; omega
  have o2 : orI v1 v2 % 2 = max (v1 % 2) (v2 % 2) ∧ orI v1 v2 / 2 = max (v1 / 2) (v2 / 2) := by unfold orI; omega
  have o3 : andI s1 s2 % 2 = min (s1 % 2) (s2 % 2) ∧ andI s1 s2 / 2 = min (s1 / 2) (s2 / 2) := by unfold andI; omega
  have o4 : andI v1 v2 % 2 = min (v1 % 2) (v2 % 2) ∧ andI v1 v2 / 2 = min (v1 / 2) (v2 / 2) := by unfold andI; omega
  obtain ⟨c1, c2⟩ := orI_bd b11 b12 b21 b22
  obtain ⟨c3, c4⟩ := orI_bd b13 b14 b23 b24
  obtain ⟨c5, c6⟩ := andI_bd b11 b12 b21 b22
  obtain ⟨c7, c8⟩ := andI_bd b13 b14 b23 b24
  generalize orI s1 s2 = j1 at *
  generalize orI v1 v2 = m2 at *
  generalize andI s1 s2 = m1 at *
  generalize andI v1 v2 = j2 at *
  have r1 : (j1 % 2 == 1) = decide (0 < s1 % 2 + s2 % 2) := by rw [Bool.eq_iff_iff]; simp; omega
  have r2 : (j2 % 2 == 1) = (v1 % 2 + v2 % 2 == 2) := by rw [Bool.eq_iff_iff]; simp; omega
  have r3 : (m1 % 2 == 1) = (s1 % 2 + s2 % 2 == 2) := by rw [Bool.eq_iff_iff]; simp; omega
  have r4 : (m2 % 2 == 1) = decide (0 < v1 % 2 + v2 % 2) := by rw [Bool.eq_iff_iff]; simp; omega
  have r5 : (j1 / 2 % 2 == 1) = decide (0 < s1 / 2 % 2 + s2 / 2 % 2) := by rw [Bool.eq_iff_iff]; simp; omega
  have r6 : (j2 / 2 % 2 == 1) = (v1 / 2 % 2 + v2 / 2 % 2 == 2) := by rw [Bool.eq_iff_iff]; simp; omega
  have r7 : (m1 / 2 % 2 == 1) = (s1 / 2 % 2 + s2 / 2 % 2 == 2) := by rw [Bool.eq_iff_iff]; simp; omega
  have r8 : (m2 / 2 % 2 == 1) = decide (0 < v1 / 2 % 2 + v2 / 2 % 2) := by rw [Bool.eq_iff_iff]; simp; omega
  have HA' := hid HA
  have HB' := hid HB
  have HC' := hid HC
  clear HA HB HC o1 o2 o3 o4
  go_wp2_with fail
  refine (HA'.out _).mono ?_
  rintro e w' ⟨rfl, hb⟩
  (try clear cc_hA ff_hA); (try clear zz_hA zy_hA)
  (try clear cc_hB ff_hB); (try clear zz_hB zy_hB)
  have zt := tt.size
  replace tt : Below w.heap.size w w' := by (refine Below.trans ?_ (hb.mono ?_)); (all_goals (repeat (first | with_reducible exact tt | (with_reducible refine Below.setCell ?_ ?_ _) | (with_reducible refine Below.alloc ?_ ?_ _) | with_reducible refine Below.drew ?_)); (all_goals (first | omega | (simp <;> omega))))
  clear zt
  replace hA := own_below hb (by repeat (first | exact hA | apply own_alloc))
  replace hB := own_below hb (by repeat (first | exact hB | apply own_alloc))
  obtain ⟨cc_hA, ff_hA⟩ := own_cells hA; have zz_hA := own_lt hA; have zy_hA := Nat.lt_add_right 1 (own_lt hA)
  obtain ⟨cc_hB, ff_hB⟩ := own_cells hB; have zz_hB := own_lt hB; have zy_hB := Nat.lt_add_right 1 (own_lt hB)
  clear hb
  have hJ := own_new w' (.cells #[.int .i64 j1, .int .i64 j2] 23)
  go_wp2_with fail
  refine named (p := fun W => Code.wp _ _ _ _ W) _ ?_
  intro W hW
  (try clear cc_hA ff_hA); (try clear zz_hA zy_hA)
  (try clear cc_hB ff_hB); (try clear zz_hB zy_hB)
  (try clear cc_hJ ff_hJ); (try clear zz_hJ zy_hJ)
  have zt := tt.size
  replace tt : Below w.heap.size w W := by
    rw [← hW]
    (repeat (first | with_reducible exact tt | (with_reducible refine Below.setCell ?_ ?_ _) | (with_reducible refine Below.alloc ?_ ?_ _) | with_reducible refine Below.drew ?_)); (all_goals (first | omega | (simp <;> omega)))
  replace hA := own_eq hW (by repeat (first | exact hA | apply own_alloc))
  replace hB := own_eq hW (by repeat (first | exact hB | apply own_alloc))
  replace hJ := own_eq hW (by repeat (first | exact hJ | apply own_alloc))
  clear hW zt
  refine wp_region_quiet_below (by kernel_rfl) (by kernel_rfl) ?_
  repeat (first
    | (refine qskip rfl (fun K hK => ?_); go_simp; refine hK _ ?_; clear hK K)
    | (apply qval rfl; (case h => (intro u hu; obtain ⟨_, _⟩ := own_cells (own_below hu hA); obtain ⟨_, _⟩ := own_cells (own_below hu hB); obtain ⟨_, _⟩ := own_cells (own_below hu hJ); go_simp; exact rfl)); (intro K hK; go_simp; refine hK _ ?_; clear hK K))
    | (apply qcall rfl; (case h => (intro u hu; go_simp; exact ⟨rfl, rfl⟩)); (case hc => (intro u hu; with_reducible exact Calls.in_below hu (HB'.out _))); (intro K hK; go_simp; refine hK _ ?_; clear hK K))
    | (apply qcall rfl; (case h => (intro u hu; go_simp; exact ⟨rfl, rfl⟩)); (case hc => (intro u hu; with_reducible exact Calls.in_below hu (slabelOk_any _ _ _))); (intro K hK; go_simp; refine hK _ ?_; clear hK K)))
  refine wpQuiet_nil ?_
  intro w' hu
  replace tt := tt.trans (hu.mono tt.size)
  replace hA := own_below hu hA
  replace hB := own_below hu hB
  replace hJ := own_below hu hJ
  obtain ⟨cc_hA, ff_hA⟩ := own_cells hA; have zz_hA := own_lt hA; have zy_hA := Nat.lt_add_right 1 (own_lt hA)
  obtain ⟨cc_hB, ff_hB⟩ := own_cells hB; have zz_hB := own_lt hB; have zy_hB := Nat.lt_add_right 1 (own_lt hB)
  obtain ⟨cc_hJ, ff_hJ⟩ := own_cells hJ; have zz_hJ := own_lt hJ; have zy_hJ := Nat.lt_add_right 1 (own_lt hJ)
  clear hu
  go_wp2_with fail
  refine (HC'.out _).mono ?_
  rintro e w' ⟨rfl, hb⟩
  (try clear cc_hA ff_hA); (try clear zz_hA zy_hA)
  (try clear cc_hB ff_hB); (try clear zz_hB zy_hB)
  (try clear cc_hJ ff_hJ); (try clear zz_hJ zy_hJ)
  have zt := tt.size
  replace tt : Below w.heap.size w w' := by (refine Below.trans ?_ (hb.mono ?_)); (all_goals (repeat (first | with_reducible exact tt | (with_reducible refine Below.setCell ?_ ?_ _) | (with_reducible refine Below.alloc ?_ ?_ _) | with_reducible refine Below.drew ?_)); (all_goals (first | omega | (simp <;> omega))))
  clear zt
  replace hA := own_below hb (by repeat (first | exact hA | apply own_alloc))
  replace hB := own_below hb (by repeat (first | exact hB | apply own_alloc))
  replace hJ := own_below hb (by repeat (first | exact hJ | apply own_alloc))
  obtain ⟨cc_hA, ff_hA⟩ := own_cells hA; have zz_hA := own_lt hA; have zy_hA := Nat.lt_add_right 1 (own_lt hA)
  obtain ⟨cc_hB, ff_hB⟩ := own_cells hB; have zz_hB := own_lt hB; have zy_hB := Nat.lt_add_right 1 (own_lt hB)
  obtain ⟨cc_hJ, ff_hJ⟩ := own_cells hJ; have zz_hJ := own_lt hJ; have zy_hJ := Nat.lt_add_right 1 (own_lt hJ)
  clear hb
  have hM := own_new w' (.cells #[.int .i64 m1, .int .i64 m2] 23)
  have hL := own_new (w'.alloc (.cells #[.int .i64 m1, .int .i64 m2] 23)) (.cells #[.int .i64 1, .int .i64 2] 3)
  go_wp2_with fail
  refine wp_loop_rounds 3 ?_
  rw [rounds_succ]
  go_wp2
  go_quiet (fail)
  go_wp2
  go_quiet (fail)
  go_wp2
  rw [rounds_succ]
  go_wp2
  go_quiet (fail)
  go_wp2
  go_quiet (fail)
  go_wp2
  rw [rounds_succ]
  go_wp2
  go_ret
  have zt := tt.size
  refine ⟨rfl, ?_⟩
  repeat (first | exact tt | (with_reducible refine Below.alloc ?_ ?_ _) | (with_reducible refine Below.drew ?_) | (with_reducible refine below_drewN ?_ _))
  all_goals (first | omega | (simp; omega))
end Go.Proofs.Ytmgikgcoigcadaa
