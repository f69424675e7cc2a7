/- The walks of the laws FnExactLabelFlow, FnExactLabelJoin, FnExactLabelMeet. No condition. -/
import Derived.Test.YtboajcaajccmdaaLab
import Derived.Test.YtboajcaajccmdaaInv
namespace Go.Proofs.Ytboajcaajccmdaa
open Go.RowKit
set_option linter.unusedVariables false

theorem fnExactLabelFlow_walk (w : World) (s1 v1 : Int) (ws1 : (Lit.int .i64 s1).wf = true) (wv1 : (Lit.int .i64 v1).wf = true) (s2 v2 : Int) (ws2 : (Lit.int .i64 s2).wf = true) (wv2 : (Lit.int .i64 v2).wf = true) :
    Calls Try.prog 3 #[.agg #[.int .i64 s1, .int .i64 v1], .agg #[.int .i64 s2, .int .i64 v2]] w fun e w' => e = .returned (.bool true) ∧ Below w.heap.size w w' := by
  clear ws1 wv1 ws2 wv2
  have t0 : Below w.heap.size w w := Below.refl _ _
  go_enter Try.func3, Try.ntmps3
  go_wp2_with fail
  refine named (p := fun W => Code.wp _ _ _ _ W) _ ?_
  intro W hW
  have tW : Below w.heap.size w W := by
    rw [← hW]
    (repeat (first | exact t0 | (refine Below.alloc ?_ ?_ _) | (refine Below.setCell ?_ ?_ _) | refine Below.drew ?_)); (all_goals (first | omega | (simp <;> omega)))
  have zW_0 : w.heap.size < W.heap.size := by rw [← hW]; first | omega | (simp <;> omega)
  have zW_1 : w.heap.size + 1 < W.heap.size := by rw [← hW]; first | omega | (simp <;> omega)
  have o0 : W.cell? ⟨w.heap.size, 0, none⟩ = some (.int .i64 s1) := by rw [← hW]; clear hW; go_simp
  have o1 : W.cell? ⟨w.heap.size, 1, none⟩ = some (.int .i64 v1) := by rw [← hW]; clear hW; go_simp
  have o2 : W.cell? ⟨w.heap.size + 1, 0, none⟩ = some (.int .i64 s2) := by rw [← hW]; clear hW; go_simp
  have o3 : W.cell? ⟨w.heap.size + 1, 1, none⟩ = some (.int .i64 v2) := by rw [← hW]; clear hW; go_simp
  clear hW
  refine wp_region_each (by kernel_rfl) (by kernel_rfl) (by kernel_rfl) (fun b a u => ∃ t5 t7 t8 t9 t10 t11 : Value, a = ⟨#[.agg #[.int .i64 s1, .int .i64 v1], .agg #[.int .i64 s2, .int .i64 v2], .pointer (some ⟨w.heap.size, 0, none⟩), .pointer (some ⟨w.heap.size + 1, 0, none⟩), .bool false, t5, undef, t7, t8, t9, t10, t11, undef, undef, undef, undef, undef, undef, undef, undef], []⟩ ∧ Below W.heap.size W u ∧ (b[0]? = some true → t7 = .agg #[.int .i64 s1, .int .i64 v1]) ∧ (b[1]? = some true → t8 = .agg #[.int .i64 s1, .int .i64 v1]) ∧ (b[2]? = some true → t9 = .agg #[.int .i64 s2, .int .i64 v2]) ∧ (b[3]? = some true → t10 = .agg #[.int .i64 s2, .int .i64 v2]) ∧ (b[4]? = some true → t11 = .bool (flowB s1 v1 s2 v2)) ∧ (b[5]? = some true → t5 = .bool (flowB s1 v1 s2 v2))) ?h0_1 ⟨?o1_0, ?o1_1, ?o1_2, ?o1_3, ?o1_4, ?o1_5, trivial⟩ ?hend_1
  case h0_1 => exact ⟨undef, undef, undef, undef, undef, undef, rfl, (Below.refl _ _).drew, by simp, by simp, by simp, by simp, by simp, by simp⟩
  case o1_0 =>
    rintro b a u hbi hcl he ⟨t5, t7, t8, t9, t10, t11, rfl, hk, g0, g1, g2, g3, g4, g5⟩ K hK
    clear he
    obtain ⟨c, f⟩ := bcell hk
    go_simp
    exact hK _ _ ⟨_, _, _, _, _, _, rfl, hk, fun _ => rfl, fun h => g1 (by simpa using h), fun h => g2 (by simpa using h), fun h => g3 (by simpa using h), fun h => g4 (by simpa using h), fun h => g5 (by simpa using h)⟩
  case o1_1 =>
    rintro b a u hbi hcl he ⟨t5, t7, t8, t9, t10, t11, rfl, hk, g0, g1, g2, g3, g4, g5⟩ K hK
    have p0 : b[0]? = some true := by simp [Region.binds] at he; simp [he]
    obtain rfl := g0 p0
    clear he
    go_simp
    refine (toLabel_any _ _ _).mono ?_
    rintro e u' ⟨rfl, b'⟩
    go_simp
    exact hK _ _ ⟨_, _, _, _, _, _, rfl, hk.trans (b'.mono hk.size), fun h => g0 (by simpa using h), fun _ => rfl, fun h => g2 (by simpa using h), fun h => g3 (by simpa using h), fun h => g4 (by simpa using h), fun h => g5 (by simpa using h)⟩
  case o1_2 =>
    rintro b a u hbi hcl he ⟨t5, t7, t8, t9, t10, t11, rfl, hk, g0, g1, g2, g3, g4, g5⟩ K hK
    clear he
    obtain ⟨c, f⟩ := bcell hk
    go_simp
    exact hK _ _ ⟨_, _, _, _, _, _, rfl, hk, fun h => g0 (by simpa using h), fun h => g1 (by simpa using h), fun _ => rfl, fun h => g3 (by simpa using h), fun h => g4 (by simpa using h), fun h => g5 (by simpa using h)⟩
  case o1_3 =>
    rintro b a u hbi hcl he ⟨t5, t7, t8, t9, t10, t11, rfl, hk, g0, g1, g2, g3, g4, g5⟩ K hK
    have p2 : b[2]? = some true := by simp [Region.binds] at he; simp [he]
    obtain rfl := g2 p2
    clear he
    go_simp
    refine (toLabel_any _ _ _).mono ?_
    rintro e u' ⟨rfl, b'⟩
    go_simp
    exact hK _ _ ⟨_, _, _, _, _, _, rfl, hk.trans (b'.mono hk.size), fun h => g0 (by simpa using h), fun h => g1 (by simpa using h), fun h => g2 (by simpa using h), fun _ => rfl, fun h => g4 (by simpa using h), fun h => g5 (by simpa using h)⟩
  case o1_4 =>
    rintro b a u hbi hcl he ⟨t5, t7, t8, t9, t10, t11, rfl, hk, g0, g1, g2, g3, g4, g5⟩ K hK
    have p1 : b[1]? = some true := by simp [Region.binds] at he; simp [he]
    have p3 : b[3]? = some true := by simp [Region.binds] at he; simp [he]
    obtain rfl := g1 p1
    obtain rfl := g3 p3
    clear he
    go_simp
    refine (slabelFlow_any _ _ _ _ _).mono ?_
    rintro e u' ⟨rfl, b'⟩
    go_simp
    exact hK _ _ ⟨_, _, _, _, _, _, rfl, hk.trans (b'.mono hk.size), fun h => g0 (by simpa using h), fun h => g1 (by simpa using h), fun h => g2 (by simpa using h), fun h => g3 (by simpa using h), fun _ => rfl, fun h => g5 (by simpa using h)⟩
  case o1_5 =>
    rintro b a u hbi hcl he ⟨t5, t7, t8, t9, t10, t11, rfl, hk, g0, g1, g2, g3, g4, g5⟩ K hK
    have p4 : b[4]? = some true := by simp [Region.binds] at he; simp [he]
    obtain rfl := g4 p4
    clear he
    go_simp
    exact hK _ _ ⟨_, _, _, _, _, _, rfl, hk, fun h => g0 (by simpa using h), fun h => g1 (by simpa using h), fun h => g2 (by simpa using h), fun h => g3 (by simpa using h), fun h => g4 (by simpa using h), fun _ => rfl⟩
  rintro a u ⟨t5, t7, t8, t9, t10, t11, rfl, hk, g0, g1, g2, g3, g4, g5⟩
  replace g0 := g0 (by simp)
  replace g1 := g1 (by simp)
  replace g2 := g2 (by simp)
  replace g3 := g3 (by simp)
  replace g4 := g4 (by simp)
  replace g5 := g5 (by simp)
  subst g0 g1 g2 g3 g4 g5
  have z1_0 : w.heap.size < u.heap.size := by have := hk.size; omega
  have z1_1 : w.heap.size + 1 < u.heap.size := by have := hk.size; omega
  have t1 : Below w.heap.size w u := tW.trans (hk.mono (by omega))
  obtain ⟨c, f⟩ := bcell hk
  go_wp2_with fail
  refine named (p := fun W => Code.wp _ _ _ _ W) _ ?_
  intro V hW
  have tV : Below w.heap.size w V := by
    rw [← hW]
    (repeat (first | exact t1 | (refine Below.alloc ?_ ?_ _) | (refine Below.setCell ?_ ?_ _) | refine Below.drew ?_)); (all_goals (first | omega | (simp <;> omega)))
  have zV_0 : w.heap.size < V.heap.size := by rw [← hW]; first | omega | (simp <;> omega)
  have zV_1 : w.heap.size + 1 < V.heap.size := by rw [← hW]; first | omega | (simp <;> omega)
  have q0 : V.cell? ⟨w.heap.size, 0, none⟩ = some (.int .i64 s1) := by rw [← hW]; clear hW; go_simp
  have q1 : V.cell? ⟨w.heap.size, 1, none⟩ = some (.int .i64 v1) := by rw [← hW]; clear hW; go_simp
  have q2 : V.cell? ⟨w.heap.size + 1, 0, none⟩ = some (.int .i64 s2) := by rw [← hW]; clear hW; go_simp
  have q3 : V.cell? ⟨w.heap.size + 1, 1, none⟩ = some (.int .i64 v2) := by rw [← hW]; clear hW; go_simp
  clear hW hk c f o0 o1 o2 o3
  refine wp_region_each (by kernel_rfl) (by kernel_rfl) (by kernel_rfl) (fun b a u => ∃ t6 t12 t13 t14 t15 t16 : Value, a = ⟨#[.agg #[.int .i64 s1, .int .i64 v1], .agg #[.int .i64 s2, .int .i64 v2], .pointer (some ⟨w.heap.size, 0, none⟩), .pointer (some ⟨w.heap.size + 1, 0, none⟩), .bool false, .bool (flowB s1 v1 s2 v2), t6, .agg #[.int .i64 s1, .int .i64 v1], .agg #[.int .i64 s1, .int .i64 v1], .agg #[.int .i64 s2, .int .i64 v2], .agg #[.int .i64 s2, .int .i64 v2], .bool (flowB s1 v1 s2 v2), t12, t13, t14, t15, t16, undef, undef, undef], []⟩ ∧ Below V.heap.size V u ∧ (b[0]? = some true → t12 = .agg #[.int .i64 s1, .int .i64 v1]) ∧ (b[1]? = some true → t13 = .agg #[.int .i64 s1, .int .i64 v1]) ∧ (b[2]? = some true → t14 = .agg #[.int .i64 s2, .int .i64 v2]) ∧ (b[3]? = some true → t15 = .agg #[.int .i64 s2, .int .i64 v2]) ∧ (b[4]? = some true → t16 = .bool (flowB s1 v1 s2 v2)) ∧ (b[5]? = some true → t6 = .bool (flowB s1 v1 s2 v2))) ?h0_2 ⟨?o2_0, ?o2_1, ?o2_2, ?o2_3, ?o2_4, ?o2_5, trivial⟩ ?hend_2
  case h0_2 => exact ⟨undef, undef, undef, undef, undef, undef, rfl, (Below.refl _ _).drew, by simp, by simp, by simp, by simp, by simp, by simp⟩
  case o2_0 =>
    rintro b a u hbi hcl he ⟨t6, t12, t13, t14, t15, t16, rfl, hk, g0, g1, g2, g3, g4, g5⟩ K hK
    clear he
    obtain ⟨c, f⟩ := bcell hk
    go_simp
    exact hK _ _ ⟨_, _, _, _, _, _, rfl, hk, fun _ => rfl, fun h => g1 (by simpa using h), fun h => g2 (by simpa using h), fun h => g3 (by simpa using h), fun h => g4 (by simpa using h), fun h => g5 (by simpa using h)⟩
  case o2_1 =>
    rintro b a u hbi hcl he ⟨t6, t12, t13, t14, t15, t16, rfl, hk, g0, g1, g2, g3, g4, g5⟩ K hK
    have p0 : b[0]? = some true := by simp [Region.binds] at he; simp [he]
    obtain rfl := g0 p0
    clear he
    go_simp
    refine (toLabel_any _ _ _).mono ?_
    rintro e u' ⟨rfl, b'⟩
    go_simp
    exact hK _ _ ⟨_, _, _, _, _, _, rfl, hk.trans (b'.mono hk.size), fun h => g0 (by simpa using h), fun _ => rfl, fun h => g2 (by simpa using h), fun h => g3 (by simpa using h), fun h => g4 (by simpa using h), fun h => g5 (by simpa using h)⟩
  case o2_2 =>
    rintro b a u hbi hcl he ⟨t6, t12, t13, t14, t15, t16, rfl, hk, g0, g1, g2, g3, g4, g5⟩ K hK
    clear he
    obtain ⟨c, f⟩ := bcell hk
    go_simp
    exact hK _ _ ⟨_, _, _, _, _, _, rfl, hk, fun h => g0 (by simpa using h), fun h => g1 (by simpa using h), fun _ => rfl, fun h => g3 (by simpa using h), fun h => g4 (by simpa using h), fun h => g5 (by simpa using h)⟩
  case o2_3 =>
    rintro b a u hbi hcl he ⟨t6, t12, t13, t14, t15, t16, rfl, hk, g0, g1, g2, g3, g4, g5⟩ K hK
    have p2 : b[2]? = some true := by simp [Region.binds] at he; simp [he]
    obtain rfl := g2 p2
    clear he
    go_simp
    refine (toLabel_any _ _ _).mono ?_
    rintro e u' ⟨rfl, b'⟩
    go_simp
    exact hK _ _ ⟨_, _, _, _, _, _, rfl, hk.trans (b'.mono hk.size), fun h => g0 (by simpa using h), fun h => g1 (by simpa using h), fun h => g2 (by simpa using h), fun _ => rfl, fun h => g4 (by simpa using h), fun h => g5 (by simpa using h)⟩
  case o2_4 =>
    rintro b a u hbi hcl he ⟨t6, t12, t13, t14, t15, t16, rfl, hk, g0, g1, g2, g3, g4, g5⟩ K hK
    have p1 : b[1]? = some true := by simp [Region.binds] at he; simp [he]
    have p3 : b[3]? = some true := by simp [Region.binds] at he; simp [he]
    obtain rfl := g1 p1
    obtain rfl := g3 p3
    clear he
    go_simp
    refine (labelFlow_any _ _ _ _ _).mono ?_
    rintro e u' ⟨rfl, b'⟩
    go_simp
    exact hK _ _ ⟨_, _, _, _, _, _, rfl, hk.trans (b'.mono hk.size), fun h => g0 (by simpa using h), fun h => g1 (by simpa using h), fun h => g2 (by simpa using h), fun h => g3 (by simpa using h), fun _ => rfl, fun h => g5 (by simpa using h)⟩
  case o2_5 =>
    rintro b a u hbi hcl he ⟨t6, t12, t13, t14, t15, t16, rfl, hk, g0, g1, g2, g3, g4, g5⟩ K hK
    have p4 : b[4]? = some true := by simp [Region.binds] at he; simp [he]
    obtain rfl := g4 p4
    clear he
    go_simp
    exact hK _ _ ⟨_, _, _, _, _, _, rfl, hk, fun h => g0 (by simpa using h), fun h => g1 (by simpa using h), fun h => g2 (by simpa using h), fun h => g3 (by simpa using h), fun h => g4 (by simpa using h), fun _ => rfl⟩
  rintro a u ⟨t6, t12, t13, t14, t15, t16, rfl, hk, g0, g1, g2, g3, g4, g5⟩
  replace g0 := g0 (by simp)
  replace g1 := g1 (by simp)
  replace g2 := g2 (by simp)
  replace g3 := g3 (by simp)
  replace g4 := g4 (by simp)
  replace g5 := g5 (by simp)
  subst g0 g1 g2 g3 g4 g5
  go_wp2_with fail
  go_ret
  exact ⟨rfl, tV.trans (hk.mono tV.size)⟩
theorem fnExactLabelJoin_walk (w : World) (s1 v1 : Int) (ws1 : (Lit.int .i64 s1).wf = true) (wv1 : (Lit.int .i64 v1).wf = true) (s2 v2 : Int) (ws2 : (Lit.int .i64 s2).wf = true) (wv2 : (Lit.int .i64 v2).wf = true) :
    Calls Try.prog 4 #[.agg #[.int .i64 s1, .int .i64 v1], .agg #[.int .i64 s2, .int .i64 v2]] w fun e w' => e = .returned (.bool true) ∧ Below w.heap.size w w' := by
  clear ws1 wv1 ws2 wv2
  have t0 : Below w.heap.size w w := Below.refl _ _
  go_enter Try.func4, Try.ntmps4
  go_wp2_with fail
  refine named (p := fun W => Code.wp _ _ _ _ W) _ ?_
  intro W hW
  have tW : Below w.heap.size w W := by
    rw [← hW]
    (repeat (first | exact t0 | (refine Below.alloc ?_ ?_ _) | (refine Below.setCell ?_ ?_ _) | refine Below.drew ?_)); (all_goals (first | omega | (simp <;> omega)))
  have zW_0 : w.heap.size < W.heap.size := by rw [← hW]; first | omega | (simp <;> omega)
  have zW_1 : w.heap.size + 1 < W.heap.size := by rw [← hW]; first | omega | (simp <;> omega)
  have o0 : W.cell? ⟨w.heap.size, 0, none⟩ = some (.int .i64 s1) := by rw [← hW]; clear hW; go_simp
  have o1 : W.cell? ⟨w.heap.size, 1, none⟩ = some (.int .i64 v1) := by rw [← hW]; clear hW; go_simp
  have o2 : W.cell? ⟨w.heap.size + 1, 0, none⟩ = some (.int .i64 s2) := by rw [← hW]; clear hW; go_simp
  have o3 : W.cell? ⟨w.heap.size + 1, 1, none⟩ = some (.int .i64 v2) := by rw [← hW]; clear hW; go_simp
  clear hW
  refine wp_region_each (by kernel_rfl) (by kernel_rfl) (by kernel_rfl) (fun b a u => ∃ t5 t7 t8 t9 t10 t11 : Value, a = ⟨#[.agg #[.int .i64 s1, .int .i64 v1], .agg #[.int .i64 s2, .int .i64 v2], .pointer (some ⟨w.heap.size, 0, none⟩), .pointer (some ⟨w.heap.size + 1, 0, none⟩), .bool false, t5, undef, t7, t8, t9, t10, t11, undef, undef, undef, undef, undef, undef, undef, undef, undef], []⟩ ∧ Below W.heap.size W u ∧ (b[0]? = some true → t7 = .agg #[.int .i64 s1, .int .i64 v1]) ∧ (b[1]? = some true → t8 = .agg #[.int .i64 s1, .int .i64 v1]) ∧ (b[2]? = some true → t9 = .agg #[.int .i64 s2, .int .i64 v2]) ∧ (b[3]? = some true → t10 = .agg #[.int .i64 s2, .int .i64 v2]) ∧ (b[4]? = some true → t11 = .agg #[.int .i64 (joinS s1 v1 s2 v2), .int .i64 (joinV s1 v1 s2 v2)]) ∧ (b[5]? = some true → ∃ (B : Nat) (y1 y2 : Value), t5 = .pointer (some ⟨B, 0, none⟩) ∧ W.heap.size ≤ B ∧ u.heap[B]? = some (.cells #[y1, y2] 25 (0, 0))) ∧ (b[6]? = some true → ∃ (B : Nat), t5 = .pointer (some ⟨B, 0, none⟩) ∧ W.heap.size ≤ B ∧ u.heap[B]? = some (.cells #[.int .i64 (joinS s1 v1 s2 v2), .int .i64 (joinV s1 v1 s2 v2)] 25 (0, 0)))) ?h0_3 ⟨?o3_0, ?o3_1, ?o3_2, ?o3_3, ?o3_4, ?o3_5, ?o3_6, trivial⟩ ?hend_3
  case h0_3 => exact ⟨undef, undef, undef, undef, undef, undef, rfl, (Below.refl _ _).drew, by simp, by simp, by simp, by simp, by simp, by simp, by simp⟩
  case o3_0 =>
    rintro b a u hbi hcl he ⟨t5, t7, t8, t9, t10, t11, rfl, hk, g0, g1, g2, g3, g4, g5, g6⟩ K hK
    clear he
    obtain ⟨c, f⟩ := bcell hk
    go_simp
    have hR := Below.refl u.heap.size u
    exact hK _ _ ⟨_, _, _, _, _, _, rfl, hk, fun _ => rfl, fun h => g1 (by simpa using h), fun h => g2 (by simpa using h), fun h => g3 (by simpa using h), fun h => g4 (by simpa using h), fun h => (fun g => (by obtain ⟨B, y1, y2, e, hB, hO⟩ := g; exact ⟨B, y1, y2, e, hB, own_below hR hO⟩)) (g5 (by simpa using h)), fun h => (fun g => (by obtain ⟨B, e, hB, hO⟩ := g; exact ⟨B, e, hB, own_below hR hO⟩)) (g6 (by simpa using h))⟩
  case o3_1 =>
    rintro b a u hbi hcl he ⟨t5, t7, t8, t9, t10, t11, rfl, hk, g0, g1, g2, g3, g4, g5, g6⟩ K hK
    have p0 : b[0]? = some true := by simp [Region.binds] at he; simp [he]
    obtain rfl := g0 p0
    clear he
    go_simp
    refine (toLabel_any _ _ _).mono ?_
    rintro e u' ⟨rfl, hR⟩
    go_simp
    exact hK _ _ ⟨_, _, _, _, _, _, rfl, hk.trans (hR.mono hk.size), fun h => g0 (by simpa using h), fun _ => rfl, fun h => g2 (by simpa using h), fun h => g3 (by simpa using h), fun h => g4 (by simpa using h), fun h => (fun g => (by obtain ⟨B, y1, y2, e, hB, hO⟩ := g; exact ⟨B, y1, y2, e, hB, own_below hR hO⟩)) (g5 (by simpa using h)), fun h => (fun g => (by obtain ⟨B, e, hB, hO⟩ := g; exact ⟨B, e, hB, own_below hR hO⟩)) (g6 (by simpa using h))⟩
  case o3_2 =>
    rintro b a u hbi hcl he ⟨t5, t7, t8, t9, t10, t11, rfl, hk, g0, g1, g2, g3, g4, g5, g6⟩ K hK
    clear he
    obtain ⟨c, f⟩ := bcell hk
    go_simp
    have hR := Below.refl u.heap.size u
    exact hK _ _ ⟨_, _, _, _, _, _, rfl, hk, fun h => g0 (by simpa using h), fun h => g1 (by simpa using h), fun _ => rfl, fun h => g3 (by simpa using h), fun h => g4 (by simpa using h), fun h => (fun g => (by obtain ⟨B, y1, y2, e, hB, hO⟩ := g; exact ⟨B, y1, y2, e, hB, own_below hR hO⟩)) (g5 (by simpa using h)), fun h => (fun g => (by obtain ⟨B, e, hB, hO⟩ := g; exact ⟨B, e, hB, own_below hR hO⟩)) (g6 (by simpa using h))⟩
  case o3_3 =>
    rintro b a u hbi hcl he ⟨t5, t7, t8, t9, t10, t11, rfl, hk, g0, g1, g2, g3, g4, g5, g6⟩ K hK
    have p2 : b[2]? = some true := by simp [Region.binds] at he; simp [he]
    obtain rfl := g2 p2
    clear he
    go_simp
    refine (toLabel_any _ _ _).mono ?_
    rintro e u' ⟨rfl, hR⟩
    go_simp
    exact hK _ _ ⟨_, _, _, _, _, _, rfl, hk.trans (hR.mono hk.size), fun h => g0 (by simpa using h), fun h => g1 (by simpa using h), fun h => g2 (by simpa using h), fun _ => rfl, fun h => g4 (by simpa using h), fun h => (fun g => (by obtain ⟨B, y1, y2, e, hB, hO⟩ := g; exact ⟨B, y1, y2, e, hB, own_below hR hO⟩)) (g5 (by simpa using h)), fun h => (fun g => (by obtain ⟨B, e, hB, hO⟩ := g; exact ⟨B, e, hB, own_below hR hO⟩)) (g6 (by simpa using h))⟩
  case o3_4 =>
    rintro b a u hbi hcl he ⟨t5, t7, t8, t9, t10, t11, rfl, hk, g0, g1, g2, g3, g4, g5, g6⟩ K hK
    have p1 : b[1]? = some true := by simp [Region.binds] at he; simp [he]
    have p3 : b[3]? = some true := by simp [Region.binds] at he; simp [he]
    obtain rfl := g1 p1
    obtain rfl := g3 p3
    clear he
    go_simp
    refine (slabelJoin_any _ _ _ _ _).mono ?_
    rintro e u' ⟨rfl, hR⟩
    go_simp
    exact hK _ _ ⟨_, _, _, _, _, _, rfl, hk.trans (hR.mono hk.size), fun h => g0 (by simpa using h), fun h => g1 (by simpa using h), fun h => g2 (by simpa using h), fun h => g3 (by simpa using h), fun _ => rfl, fun h => (fun g => (by obtain ⟨B, y1, y2, e, hB, hO⟩ := g; exact ⟨B, y1, y2, e, hB, own_below hR hO⟩)) (g5 (by simpa using h)), fun h => (fun g => (by obtain ⟨B, e, hB, hO⟩ := g; exact ⟨B, e, hB, own_below hR hO⟩)) (g6 (by simpa using h))⟩
  case o3_5 =>
    rintro b a u hbi hcl he ⟨t5, t7, t8, t9, t10, t11, rfl, hk, g0, g1, g2, g3, g4, g5, g6⟩ K hK
    clear he
    go_simp
    have hR := (Below.refl u.heap.size u).alloc (Nat.le_refl _) (.cells #[.int .i64 0, .int .i64 0] 25)
    exact hK _ _ ⟨_, _, _, _, _, _, rfl, hk.trans (hR.mono hk.size), fun h => g0 (by simpa using h), fun h => g1 (by simpa using h), fun h => g2 (by simpa using h), fun h => g3 (by simpa using h), fun h => g4 (by simpa using h), fun _ => ⟨_, _, _, rfl, hk.size, own_new _ _⟩, fun h => (by have hn := hcl 6 _ rfl (by simpa using h); simp [Region.binds, hbi] at hn)⟩
  case o3_6 =>
    rintro b a u hbi hcl he ⟨t5, t7, t8, t9, t10, t11, rfl, hk, g0, g1, g2, g3, g4, g5, g6⟩ K hK
    have p4 : b[4]? = some true := by simp [Region.binds] at he; simp [he]
    have p5 : b[5]? = some true := by simp [Region.binds] at he; simp [he]
    obtain rfl := g4 p4
    obtain ⟨B, y1, y2, rfl, hB, hO⟩ := g5 p5
    clear he
    obtain ⟨oc, of⟩ := own_cells hO
    go_simp
    exact hK _ _ ⟨_, _, _, _, _, _, rfl, (hk.setCell hB _).setCell hB _, fun h => g0 (by simpa using h), fun h => g1 (by simpa using h), fun h => g2 (by simpa using h), fun h => g3 (by simpa using h), fun h => g4 (by simpa using h), fun h => (fun g => ⟨B, _, _, rfl, hB, own_set (own_set hO _ _) _ _⟩) (g5 (by simpa using h)), fun _ => ⟨B, rfl, hB, own_set (own_set hO _ _) _ _⟩⟩
  rintro a u ⟨t5, t7, t8, t9, t10, t11, rfl, hk, g0, g1, g2, g3, g4, g5, g6⟩
  replace g0 := g0 (by simp)
  replace g1 := g1 (by simp)
  replace g2 := g2 (by simp)
  replace g3 := g3 (by simp)
  replace g4 := g4 (by simp)
  replace g5 := g5 (by simp)
  replace g6 := g6 (by simp)
  obtain rfl := g0
  obtain rfl := g1
  obtain rfl := g2
  obtain rfl := g3
  obtain rfl := g4
  obtain ⟨B1, rfl, hB1, hO1⟩ := g6
  clear g5
  have z1_0 : w.heap.size < u.heap.size := by have := hk.size; omega
  have z1_1 : w.heap.size + 1 < u.heap.size := by have := hk.size; omega
  have t1 : Below w.heap.size w u := tW.trans (hk.mono (by omega))
  obtain ⟨c, f⟩ := bcell hk
  go_wp2_with fail
  refine named (p := fun W => Code.wp _ _ _ _ W) _ ?_
  intro V hW
  have tV : Below w.heap.size w V := by
    rw [← hW]
    (repeat (first | exact t1 | (refine Below.alloc ?_ ?_ _) | (refine Below.setCell ?_ ?_ _) | refine Below.drew ?_)); (all_goals (first | omega | (simp <;> omega)))
  have zV_0 : w.heap.size < V.heap.size := by rw [← hW]; first | omega | (simp <;> omega)
  have zV_1 : w.heap.size + 1 < V.heap.size := by rw [← hW]; first | omega | (simp <;> omega)
  have q0 : V.cell? ⟨w.heap.size, 0, none⟩ = some (.int .i64 s1) := by rw [← hW]; clear hW; go_simp
  have q1 : V.cell? ⟨w.heap.size, 1, none⟩ = some (.int .i64 v1) := by rw [← hW]; clear hW; go_simp
  have q2 : V.cell? ⟨w.heap.size + 1, 0, none⟩ = some (.int .i64 s2) := by rw [← hW]; clear hW; go_simp
  have q3 : V.cell? ⟨w.heap.size + 1, 1, none⟩ = some (.int .i64 v2) := by rw [← hW]; clear hW; go_simp
  have hO1 : V.heap[B1]? = some (.cells #[.int .i64 (joinS s1 v1 s2 v2), .int .i64 (joinV s1 v1 s2 v2)] 25 (0, 0)) := by rw [← hW]; exact hO1
  clear hW hk c f o0 o1 o2 o3
  refine wp_region_each (by kernel_rfl) (by kernel_rfl) (by kernel_rfl) (fun b a u => ∃ t6 t12 t13 t14 t15 t16 : Value, a = ⟨#[.agg #[.int .i64 s1, .int .i64 v1], .agg #[.int .i64 s2, .int .i64 v2], .pointer (some ⟨w.heap.size, 0, none⟩), .pointer (some ⟨w.heap.size + 1, 0, none⟩), .bool false, .pointer (some ⟨B1, 0, none⟩), t6, .agg #[.int .i64 s1, .int .i64 v1], .agg #[.int .i64 s1, .int .i64 v1], .agg #[.int .i64 s2, .int .i64 v2], .agg #[.int .i64 s2, .int .i64 v2], .agg #[.int .i64 (joinS s1 v1 s2 v2), .int .i64 (joinV s1 v1 s2 v2)], t12, t13, t14, t15, t16, undef, undef, undef, undef], []⟩ ∧ Below V.heap.size V u ∧ (b[0]? = some true → t12 = .agg #[.int .i64 s1, .int .i64 v1]) ∧ (b[1]? = some true → t13 = .agg #[.int .i64 s1, .int .i64 v1]) ∧ (b[2]? = some true → t14 = .agg #[.int .i64 s2, .int .i64 v2]) ∧ (b[3]? = some true → t15 = .agg #[.int .i64 s2, .int .i64 v2]) ∧ (b[4]? = some true → t16 = .agg #[.int .i64 (joinS s1 v1 s2 v2), .int .i64 (joinV s1 v1 s2 v2)]) ∧ (b[5]? = some true → ∃ (B : Nat) (y1 y2 : Value), t6 = .pointer (some ⟨B, 0, none⟩) ∧ V.heap.size ≤ B ∧ u.heap[B]? = some (.cells #[y1, y2] 25 (0, 0))) ∧ (b[6]? = some true → ∃ (B : Nat), t6 = .pointer (some ⟨B, 0, none⟩) ∧ V.heap.size ≤ B ∧ u.heap[B]? = some (.cells #[.int .i64 (joinS s1 v1 s2 v2), .int .i64 (joinV s1 v1 s2 v2)] 25 (0, 0)))) ?h0_4 ⟨?o4_0, ?o4_1, ?o4_2, ?o4_3, ?o4_4, ?o4_5, ?o4_6, trivial⟩ ?hend_4
  case h0_4 => exact ⟨undef, undef, undef, undef, undef, undef, rfl, (Below.refl _ _).drew, by simp, by simp, by simp, by simp, by simp, by simp, by simp⟩
  case o4_0 =>
    rintro b a u hbi hcl he ⟨t6, t12, t13, t14, t15, t16, rfl, hk, g0, g1, g2, g3, g4, g5, g6⟩ K hK
    clear he
    obtain ⟨c, f⟩ := bcell hk
    go_simp
    have hR := Below.refl u.heap.size u
    exact hK _ _ ⟨_, _, _, _, _, _, rfl, hk, fun _ => rfl, fun h => g1 (by simpa using h), fun h => g2 (by simpa using h), fun h => g3 (by simpa using h), fun h => g4 (by simpa using h), fun h => (fun g => (by obtain ⟨B, y1, y2, e, hB, hO⟩ := g; exact ⟨B, y1, y2, e, hB, own_below hR hO⟩)) (g5 (by simpa using h)), fun h => (fun g => (by obtain ⟨B, e, hB, hO⟩ := g; exact ⟨B, e, hB, own_below hR hO⟩)) (g6 (by simpa using h))⟩
  case o4_1 =>
    rintro b a u hbi hcl he ⟨t6, t12, t13, t14, t15, t16, rfl, hk, g0, g1, g2, g3, g4, g5, g6⟩ K hK
    have p0 : b[0]? = some true := by simp [Region.binds] at he; simp [he]
    obtain rfl := g0 p0
    clear he
    go_simp
    refine (toLabel_any _ _ _).mono ?_
    rintro e u' ⟨rfl, hR⟩
    go_simp
    exact hK _ _ ⟨_, _, _, _, _, _, rfl, hk.trans (hR.mono hk.size), fun h => g0 (by simpa using h), fun _ => rfl, fun h => g2 (by simpa using h), fun h => g3 (by simpa using h), fun h => g4 (by simpa using h), fun h => (fun g => (by obtain ⟨B, y1, y2, e, hB, hO⟩ := g; exact ⟨B, y1, y2, e, hB, own_below hR hO⟩)) (g5 (by simpa using h)), fun h => (fun g => (by obtain ⟨B, e, hB, hO⟩ := g; exact ⟨B, e, hB, own_below hR hO⟩)) (g6 (by simpa using h))⟩
  case o4_2 =>
    rintro b a u hbi hcl he ⟨t6, t12, t13, t14, t15, t16, rfl, hk, g0, g1, g2, g3, g4, g5, g6⟩ K hK
    clear he
    obtain ⟨c, f⟩ := bcell hk
    go_simp
    have hR := Below.refl u.heap.size u
    exact hK _ _ ⟨_, _, _, _, _, _, rfl, hk, fun h => g0 (by simpa using h), fun h => g1 (by simpa using h), fun _ => rfl, fun h => g3 (by simpa using h), fun h => g4 (by simpa using h), fun h => (fun g => (by obtain ⟨B, y1, y2, e, hB, hO⟩ := g; exact ⟨B, y1, y2, e, hB, own_below hR hO⟩)) (g5 (by simpa using h)), fun h => (fun g => (by obtain ⟨B, e, hB, hO⟩ := g; exact ⟨B, e, hB, own_below hR hO⟩)) (g6 (by simpa using h))⟩
  case o4_3 =>
    rintro b a u hbi hcl he ⟨t6, t12, t13, t14, t15, t16, rfl, hk, g0, g1, g2, g3, g4, g5, g6⟩ K hK
    have p2 : b[2]? = some true := by simp [Region.binds] at he; simp [he]
    obtain rfl := g2 p2
    clear he
    go_simp
    refine (toLabel_any _ _ _).mono ?_
    rintro e u' ⟨rfl, hR⟩
    go_simp
    exact hK _ _ ⟨_, _, _, _, _, _, rfl, hk.trans (hR.mono hk.size), fun h => g0 (by simpa using h), fun h => g1 (by simpa using h), fun h => g2 (by simpa using h), fun _ => rfl, fun h => g4 (by simpa using h), fun h => (fun g => (by obtain ⟨B, y1, y2, e, hB, hO⟩ := g; exact ⟨B, y1, y2, e, hB, own_below hR hO⟩)) (g5 (by simpa using h)), fun h => (fun g => (by obtain ⟨B, e, hB, hO⟩ := g; exact ⟨B, e, hB, own_below hR hO⟩)) (g6 (by simpa using h))⟩
  case o4_4 =>
    rintro b a u hbi hcl he ⟨t6, t12, t13, t14, t15, t16, rfl, hk, g0, g1, g2, g3, g4, g5, g6⟩ K hK
    have p1 : b[1]? = some true := by simp [Region.binds] at he; simp [he]
    have p3 : b[3]? = some true := by simp [Region.binds] at he; simp [he]
    obtain rfl := g1 p1
    obtain rfl := g3 p3
    clear he
    go_simp
    refine (labelJoin_any _ _ _ _ _).mono ?_
    rintro e u' ⟨rfl, hR⟩
    go_simp
    exact hK _ _ ⟨_, _, _, _, _, _, rfl, hk.trans (hR.mono hk.size), fun h => g0 (by simpa using h), fun h => g1 (by simpa using h), fun h => g2 (by simpa using h), fun h => g3 (by simpa using h), fun _ => rfl, fun h => (fun g => (by obtain ⟨B, y1, y2, e, hB, hO⟩ := g; exact ⟨B, y1, y2, e, hB, own_below hR hO⟩)) (g5 (by simpa using h)), fun h => (fun g => (by obtain ⟨B, e, hB, hO⟩ := g; exact ⟨B, e, hB, own_below hR hO⟩)) (g6 (by simpa using h))⟩
  case o4_5 =>
    rintro b a u hbi hcl he ⟨t6, t12, t13, t14, t15, t16, rfl, hk, g0, g1, g2, g3, g4, g5, g6⟩ K hK
    clear he
    go_simp
    have hR := (Below.refl u.heap.size u).alloc (Nat.le_refl _) (.cells #[.int .i64 0, .int .i64 0] 25)
    exact hK _ _ ⟨_, _, _, _, _, _, rfl, hk.trans (hR.mono hk.size), fun h => g0 (by simpa using h), fun h => g1 (by simpa using h), fun h => g2 (by simpa using h), fun h => g3 (by simpa using h), fun h => g4 (by simpa using h), fun _ => ⟨_, _, _, rfl, hk.size, own_new _ _⟩, fun h => (by have hn := hcl 6 _ rfl (by simpa using h); simp [Region.binds, hbi] at hn)⟩
  case o4_6 =>
    rintro b a u hbi hcl he ⟨t6, t12, t13, t14, t15, t16, rfl, hk, g0, g1, g2, g3, g4, g5, g6⟩ K hK
    have p4 : b[4]? = some true := by simp [Region.binds] at he; simp [he]
    have p5 : b[5]? = some true := by simp [Region.binds] at he; simp [he]
    obtain rfl := g4 p4
    obtain ⟨B, y1, y2, rfl, hB, hO⟩ := g5 p5
    clear he
    obtain ⟨oc, of⟩ := own_cells hO
    go_simp
    exact hK _ _ ⟨_, _, _, _, _, _, rfl, (hk.setCell hB _).setCell hB _, fun h => g0 (by simpa using h), fun h => g1 (by simpa using h), fun h => g2 (by simpa using h), fun h => g3 (by simpa using h), fun h => g4 (by simpa using h), fun h => (fun g => ⟨B, _, _, rfl, hB, own_set (own_set hO _ _) _ _⟩) (g5 (by simpa using h)), fun _ => ⟨B, rfl, hB, own_set (own_set hO _ _) _ _⟩⟩
  rintro a u ⟨t6, t12, t13, t14, t15, t16, rfl, hk, g0, g1, g2, g3, g4, g5, g6⟩
  replace g0 := g0 (by simp)
  replace g1 := g1 (by simp)
  replace g2 := g2 (by simp)
  replace g3 := g3 (by simp)
  replace g4 := g4 (by simp)
  replace g5 := g5 (by simp)
  replace g6 := g6 (by simp)
  obtain rfl := g0
  obtain rfl := g1
  obtain rfl := g2
  obtain rfl := g3
  obtain rfl := g4
  obtain ⟨B2, rfl, hB2, hO2⟩ := g6
  clear g5
  have hO3 := own_below hk hO1
  have t2 : Below w.heap.size w u := tV.trans (hk.mono tV.size)
  obtain ⟨oc1, of1⟩ := own_cells hO3
  obtain ⟨oc2, of2⟩ := own_cells hO2
  have zE : w.heap.size ≤ u.heap.size := t2.size
  have hq : lblEq (joinS s1 v1 s2 v2) (joinV s1 v1 s2 v2) (joinS s1 v1 s2 v2) (joinV s1 v1 s2 v2) = true := by simp [lblEq]
  go_wp2_with fail
  refine (eqLabel_any _ _ _ _ _).mono ?_
  rintro e w3 ⟨rfl, b3⟩
  have z3 := b3.size
  try simp at z3
  have t3 : Below w.heap.size w w3 := by
    refine Below.trans ?_ (b3.mono ?_)
    · (repeat (first | exact t2 | (refine Below.alloc ?_ ?_ _) | (refine Below.setCell ?_ ?_ _) | refine Below.drew ?_)); (all_goals (first | omega | (simp <;> omega)))
    · first | omega | (simp <;> omega)
  obtain ⟨c3, f3⟩ := bcell b3
  clear b3
  go_wp2_with fail
  go_ret
  exact ⟨rfl, t3⟩
theorem fnExactLabelMeet_walk (w : World) (s1 v1 : Int) (ws1 : (Lit.int .i64 s1).wf = true) (wv1 : (Lit.int .i64 v1).wf = true) (s2 v2 : Int) (ws2 : (Lit.int .i64 s2).wf = true) (wv2 : (Lit.int .i64 v2).wf = true) :
    Calls Try.prog 5 #[.agg #[.int .i64 s1, .int .i64 v1], .agg #[.int .i64 s2, .int .i64 v2]] w fun e w' => e = .returned (.bool true) ∧ Below w.heap.size w w' := by
  clear ws1 wv1 ws2 wv2
  have t0 : Below w.heap.size w w := Below.refl _ _
  go_enter Try.func5, Try.ntmps5
  go_wp2_with fail
  refine named (p := fun W => Code.wp _ _ _ _ W) _ ?_
  intro W hW
  have tW : Below w.heap.size w W := by
    rw [← hW]
    (repeat (first | exact t0 | (refine Below.alloc ?_ ?_ _) | (refine Below.setCell ?_ ?_ _) | refine Below.drew ?_)); (all_goals (first | omega | (simp <;> omega)))
  have zW_0 : w.heap.size < W.heap.size := by rw [← hW]; first | omega | (simp <;> omega)
  have zW_1 : w.heap.size + 1 < W.heap.size := by rw [← hW]; first | omega | (simp <;> omega)
  have o0 : W.cell? ⟨w.heap.size, 0, none⟩ = some (.int .i64 s1) := by rw [← hW]; clear hW; go_simp
  have o1 : W.cell? ⟨w.heap.size, 1, none⟩ = some (.int .i64 v1) := by rw [← hW]; clear hW; go_simp
  have o2 : W.cell? ⟨w.heap.size + 1, 0, none⟩ = some (.int .i64 s2) := by rw [← hW]; clear hW; go_simp
  have o3 : W.cell? ⟨w.heap.size + 1, 1, none⟩ = some (.int .i64 v2) := by rw [← hW]; clear hW; go_simp
  clear hW
  refine wp_region_each (by kernel_rfl) (by kernel_rfl) (by kernel_rfl) (fun b a u => ∃ t5 t7 t8 t9 t10 t11 : Value, a = ⟨#[.agg #[.int .i64 s1, .int .i64 v1], .agg #[.int .i64 s2, .int .i64 v2], .pointer (some ⟨w.heap.size, 0, none⟩), .pointer (some ⟨w.heap.size + 1, 0, none⟩), .bool false, t5, undef, t7, t8, t9, t10, t11, undef, undef, undef, undef, undef, undef, undef, undef, undef], []⟩ ∧ Below W.heap.size W u ∧ (b[0]? = some true → t7 = .agg #[.int .i64 s1, .int .i64 v1]) ∧ (b[1]? = some true → t8 = .agg #[.int .i64 s1, .int .i64 v1]) ∧ (b[2]? = some true → t9 = .agg #[.int .i64 s2, .int .i64 v2]) ∧ (b[3]? = some true → t10 = .agg #[.int .i64 s2, .int .i64 v2]) ∧ (b[4]? = some true → t11 = .agg #[.int .i64 (meetS s1 v1 s2 v2), .int .i64 (meetV s1 v1 s2 v2)]) ∧ (b[5]? = some true → ∃ (B : Nat) (y1 y2 : Value), t5 = .pointer (some ⟨B, 0, none⟩) ∧ W.heap.size ≤ B ∧ u.heap[B]? = some (.cells #[y1, y2] 25 (0, 0))) ∧ (b[6]? = some true → ∃ (B : Nat), t5 = .pointer (some ⟨B, 0, none⟩) ∧ W.heap.size ≤ B ∧ u.heap[B]? = some (.cells #[.int .i64 (meetS s1 v1 s2 v2), .int .i64 (meetV s1 v1 s2 v2)] 25 (0, 0)))) ?h0_5 ⟨?o5_0, ?o5_1, ?o5_2, ?o5_3, ?o5_4, ?o5_5, ?o5_6, trivial⟩ ?hend_5
  case h0_5 => exact ⟨undef, undef, undef, undef, undef, undef, rfl, (Below.refl _ _).drew, by simp, by simp, by simp, by simp, by simp, by simp, by simp⟩
  case o5_0 =>
    rintro b a u hbi hcl he ⟨t5, t7, t8, t9, t10, t11, rfl, hk, g0, g1, g2, g3, g4, g5, g6⟩ K hK
    clear he
    obtain ⟨c, f⟩ := bcell hk
    go_simp
    have hR := Below.refl u.heap.size u
    exact hK _ _ ⟨_, _, _, _, _, _, rfl, hk, fun _ => rfl, fun h => g1 (by simpa using h), fun h => g2 (by simpa using h), fun h => g3 (by simpa using h), fun h => g4 (by simpa using h), fun h => (fun g => (by obtain ⟨B, y1, y2, e, hB, hO⟩ := g; exact ⟨B, y1, y2, e, hB, own_below hR hO⟩)) (g5 (by simpa using h)), fun h => (fun g => (by obtain ⟨B, e, hB, hO⟩ := g; exact ⟨B, e, hB, own_below hR hO⟩)) (g6 (by simpa using h))⟩
  case o5_1 =>
    rintro b a u hbi hcl he ⟨t5, t7, t8, t9, t10, t11, rfl, hk, g0, g1, g2, g3, g4, g5, g6⟩ K hK
    have p0 : b[0]? = some true := by simp [Region.binds] at he; simp [he]
    obtain rfl := g0 p0
    clear he
    go_simp
    refine (toLabel_any _ _ _).mono ?_
    rintro e u' ⟨rfl, hR⟩
    go_simp
    exact hK _ _ ⟨_, _, _, _, _, _, rfl, hk.trans (hR.mono hk.size), fun h => g0 (by simpa using h), fun _ => rfl, fun h => g2 (by simpa using h), fun h => g3 (by simpa using h), fun h => g4 (by simpa using h), fun h => (fun g => (by obtain ⟨B, y1, y2, e, hB, hO⟩ := g; exact ⟨B, y1, y2, e, hB, own_below hR hO⟩)) (g5 (by simpa using h)), fun h => (fun g => (by obtain ⟨B, e, hB, hO⟩ := g; exact ⟨B, e, hB, own_below hR hO⟩)) (g6 (by simpa using h))⟩
  case o5_2 =>
    rintro b a u hbi hcl he ⟨t5, t7, t8, t9, t10, t11, rfl, hk, g0, g1, g2, g3, g4, g5, g6⟩ K hK
    clear he
    obtain ⟨c, f⟩ := bcell hk
    go_simp
    have hR := Below.refl u.heap.size u
    exact hK _ _ ⟨_, _, _, _, _, _, rfl, hk, fun h => g0 (by simpa using h), fun h => g1 (by simpa using h), fun _ => rfl, fun h => g3 (by simpa using h), fun h => g4 (by simpa using h), fun h => (fun g => (by obtain ⟨B, y1, y2, e, hB, hO⟩ := g; exact ⟨B, y1, y2, e, hB, own_below hR hO⟩)) (g5 (by simpa using h)), fun h => (fun g => (by obtain ⟨B, e, hB, hO⟩ := g; exact ⟨B, e, hB, own_below hR hO⟩)) (g6 (by simpa using h))⟩
  case o5_3 =>
    rintro b a u hbi hcl he ⟨t5, t7, t8, t9, t10, t11, rfl, hk, g0, g1, g2, g3, g4, g5, g6⟩ K hK
    have p2 : b[2]? = some true := by simp [Region.binds] at he; simp [he]
    obtain rfl := g2 p2
    clear he
    go_simp
    refine (toLabel_any _ _ _).mono ?_
    rintro e u' ⟨rfl, hR⟩
    go_simp
    exact hK _ _ ⟨_, _, _, _, _, _, rfl, hk.trans (hR.mono hk.size), fun h => g0 (by simpa using h), fun h => g1 (by simpa using h), fun h => g2 (by simpa using h), fun _ => rfl, fun h => g4 (by simpa using h), fun h => (fun g => (by obtain ⟨B, y1, y2, e, hB, hO⟩ := g; exact ⟨B, y1, y2, e, hB, own_below hR hO⟩)) (g5 (by simpa using h)), fun h => (fun g => (by obtain ⟨B, e, hB, hO⟩ := g; exact ⟨B, e, hB, own_below hR hO⟩)) (g6 (by simpa using h))⟩
  case o5_4 =>
    rintro b a u hbi hcl he ⟨t5, t7, t8, t9, t10, t11, rfl, hk, g0, g1, g2, g3, g4, g5, g6⟩ K hK
    have p1 : b[1]? = some true := by simp [Region.binds] at he; simp [he]
    have p3 : b[3]? = some true := by simp [Region.binds] at he; simp [he]
    obtain rfl := g1 p1
    obtain rfl := g3 p3
    clear he
    go_simp
    refine (slabelMeet_any _ _ _ _ _).mono ?_
    rintro e u' ⟨rfl, hR⟩
    go_simp
    exact hK _ _ ⟨_, _, _, _, _, _, rfl, hk.trans (hR.mono hk.size), fun h => g0 (by simpa using h), fun h => g1 (by simpa using h), fun h => g2 (by simpa using h), fun h => g3 (by simpa using h), fun _ => rfl, fun h => (fun g => (by obtain ⟨B, y1, y2, e, hB, hO⟩ := g; exact ⟨B, y1, y2, e, hB, own_below hR hO⟩)) (g5 (by simpa using h)), fun h => (fun g => (by obtain ⟨B, e, hB, hO⟩ := g; exact ⟨B, e, hB, own_below hR hO⟩)) (g6 (by simpa using h))⟩
  case o5_5 =>
    rintro b a u hbi hcl he ⟨t5, t7, t8, t9, t10, t11, rfl, hk, g0, g1, g2, g3, g4, g5, g6⟩ K hK
    clear he
    go_simp
    have hR := (Below.refl u.heap.size u).alloc (Nat.le_refl _) (.cells #[.int .i64 0, .int .i64 0] 25)
    exact hK _ _ ⟨_, _, _, _, _, _, rfl, hk.trans (hR.mono hk.size), fun h => g0 (by simpa using h), fun h => g1 (by simpa using h), fun h => g2 (by simpa using h), fun h => g3 (by simpa using h), fun h => g4 (by simpa using h), fun _ => ⟨_, _, _, rfl, hk.size, own_new _ _⟩, fun h => (by have hn := hcl 6 _ rfl (by simpa using h); simp [Region.binds, hbi] at hn)⟩
  case o5_6 =>
    rintro b a u hbi hcl he ⟨t5, t7, t8, t9, t10, t11, rfl, hk, g0, g1, g2, g3, g4, g5, g6⟩ K hK
    have p4 : b[4]? = some true := by simp [Region.binds] at he; simp [he]
    have p5 : b[5]? = some true := by simp [Region.binds] at he; simp [he]
    obtain rfl := g4 p4
    obtain ⟨B, y1, y2, rfl, hB, hO⟩ := g5 p5
    clear he
    obtain ⟨oc, of⟩ := own_cells hO
    go_simp
    exact hK _ _ ⟨_, _, _, _, _, _, rfl, (hk.setCell hB _).setCell hB _, fun h => g0 (by simpa using h), fun h => g1 (by simpa using h), fun h => g2 (by simpa using h), fun h => g3 (by simpa using h), fun h => g4 (by simpa using h), fun h => (fun g => ⟨B, _, _, rfl, hB, own_set (own_set hO _ _) _ _⟩) (g5 (by simpa using h)), fun _ => ⟨B, rfl, hB, own_set (own_set hO _ _) _ _⟩⟩
  rintro a u ⟨t5, t7, t8, t9, t10, t11, rfl, hk, g0, g1, g2, g3, g4, g5, g6⟩
  replace g0 := g0 (by simp)
  replace g1 := g1 (by simp)
  replace g2 := g2 (by simp)
  replace g3 := g3 (by simp)
  replace g4 := g4 (by simp)
  replace g5 := g5 (by simp)
  replace g6 := g6 (by simp)
  obtain rfl := g0
  obtain rfl := g1
  obtain rfl := g2
  obtain rfl := g3
  obtain rfl := g4
  obtain ⟨B1, rfl, hB1, hO1⟩ := g6
  clear g5
  have z1_0 : w.heap.size < u.heap.size := by have := hk.size; omega
  have z1_1 : w.heap.size + 1 < u.heap.size := by have := hk.size; omega
  have t1 : Below w.heap.size w u := tW.trans (hk.mono (by omega))
  obtain ⟨c, f⟩ := bcell hk
  go_wp2_with fail
  refine named (p := fun W => Code.wp _ _ _ _ W) _ ?_
  intro V hW
  have tV : Below w.heap.size w V := by
    rw [← hW]
    (repeat (first | exact t1 | (refine Below.alloc ?_ ?_ _) | (refine Below.setCell ?_ ?_ _) | refine Below.drew ?_)); (all_goals (first | omega | (simp <;> omega)))
  have zV_0 : w.heap.size < V.heap.size := by rw [← hW]; first | omega | (simp <;> omega)
  have zV_1 : w.heap.size + 1 < V.heap.size := by rw [← hW]; first | omega | (simp <;> omega)
  have q0 : V.cell? ⟨w.heap.size, 0, none⟩ = some (.int .i64 s1) := by rw [← hW]; clear hW; go_simp
  have q1 : V.cell? ⟨w.heap.size, 1, none⟩ = some (.int .i64 v1) := by rw [← hW]; clear hW; go_simp
  have q2 : V.cell? ⟨w.heap.size + 1, 0, none⟩ = some (.int .i64 s2) := by rw [← hW]; clear hW; go_simp
  have q3 : V.cell? ⟨w.heap.size + 1, 1, none⟩ = some (.int .i64 v2) := by rw [← hW]; clear hW; go_simp
  have hO1 : V.heap[B1]? = some (.cells #[.int .i64 (meetS s1 v1 s2 v2), .int .i64 (meetV s1 v1 s2 v2)] 25 (0, 0)) := by rw [← hW]; exact hO1
  clear hW hk c f o0 o1 o2 o3
  refine wp_region_each (by kernel_rfl) (by kernel_rfl) (by kernel_rfl) (fun b a u => ∃ t6 t12 t13 t14 t15 t16 : Value, a = ⟨#[.agg #[.int .i64 s1, .int .i64 v1], .agg #[.int .i64 s2, .int .i64 v2], .pointer (some ⟨w.heap.size, 0, none⟩), .pointer (some ⟨w.heap.size + 1, 0, none⟩), .bool false, .pointer (some ⟨B1, 0, none⟩), t6, .agg #[.int .i64 s1, .int .i64 v1], .agg #[.int .i64 s1, .int .i64 v1], .agg #[.int .i64 s2, .int .i64 v2], .agg #[.int .i64 s2, .int .i64 v2], .agg #[.int .i64 (meetS s1 v1 s2 v2), .int .i64 (meetV s1 v1 s2 v2)], t12, t13, t14, t15, t16, undef, undef, undef, undef], []⟩ ∧ Below V.heap.size V u ∧ (b[0]? = some true → t12 = .agg #[.int .i64 s1, .int .i64 v1]) ∧ (b[1]? = some true → t13 = .agg #[.int .i64 s1, .int .i64 v1]) ∧ (b[2]? = some true → t14 = .agg #[.int .i64 s2, .int .i64 v2]) ∧ (b[3]? = some true → t15 = .agg #[.int .i64 s2, .int .i64 v2]) ∧ (b[4]? = some true → t16 = .agg #[.int .i64 (meetS s1 v1 s2 v2), .int .i64 (meetV s1 v1 s2 v2)]) ∧ (b[5]? = some true → ∃ (B : Nat) (y1 y2 : Value), t6 = .pointer (some ⟨B, 0, none⟩) ∧ V.heap.size ≤ B ∧ u.heap[B]? = some (.cells #[y1, y2] 25 (0, 0))) ∧ (b[6]? = some true → ∃ (B : Nat), t6 = .pointer (some ⟨B, 0, none⟩) ∧ V.heap.size ≤ B ∧ u.heap[B]? = some (.cells #[.int .i64 (meetS s1 v1 s2 v2), .int .i64 (meetV s1 v1 s2 v2)] 25 (0, 0)))) ?h0_6 ⟨?o6_0, ?o6_1, ?o6_2, ?o6_3, ?o6_4, ?o6_5, ?o6_6, trivial⟩ ?hend_6
  case h0_6 => exact ⟨undef, undef, undef, undef, undef, undef, rfl, (Below.refl _ _).drew, by simp, by simp, by simp, by simp, by simp, by simp, by simp⟩
  case o6_0 =>
    rintro b a u hbi hcl he ⟨t6, t12, t13, t14, t15, t16, rfl, hk, g0, g1, g2, g3, g4, g5, g6⟩ K hK
    clear he
    obtain ⟨c, f⟩ := bcell hk
    go_simp
    have hR := Below.refl u.heap.size u
    exact hK _ _ ⟨_, _, _, _, _, _, rfl, hk, fun _ => rfl, fun h => g1 (by simpa using h), fun h => g2 (by simpa using h), fun h => g3 (by simpa using h), fun h => g4 (by simpa using h), fun h => (fun g => (by obtain ⟨B, y1, y2, e, hB, hO⟩ := g; exact ⟨B, y1, y2, e, hB, own_below hR hO⟩)) (g5 (by simpa using h)), fun h => (fun g => (by obtain ⟨B, e, hB, hO⟩ := g; exact ⟨B, e, hB, own_below hR hO⟩)) (g6 (by simpa using h))⟩
  case o6_1 =>
    rintro b a u hbi hcl he ⟨t6, t12, t13, t14, t15, t16, rfl, hk, g0, g1, g2, g3, g4, g5, g6⟩ K hK
    have p0 : b[0]? = some true := by simp [Region.binds] at he; simp [he]
    obtain rfl := g0 p0
    clear he
    go_simp
    refine (toLabel_any _ _ _).mono ?_
    rintro e u' ⟨rfl, hR⟩
    go_simp
    exact hK _ _ ⟨_, _, _, _, _, _, rfl, hk.trans (hR.mono hk.size), fun h => g0 (by simpa using h), fun _ => rfl, fun h => g2 (by simpa using h), fun h => g3 (by simpa using h), fun h => g4 (by simpa using h), fun h => (fun g => (by obtain ⟨B, y1, y2, e, hB, hO⟩ := g; exact ⟨B, y1, y2, e, hB, own_below hR hO⟩)) (g5 (by simpa using h)), fun h => (fun g => (by obtain ⟨B, e, hB, hO⟩ := g; exact ⟨B, e, hB, own_below hR hO⟩)) (g6 (by simpa using h))⟩
  case o6_2 =>
    rintro b a u hbi hcl he ⟨t6, t12, t13, t14, t15, t16, rfl, hk, g0, g1, g2, g3, g4, g5, g6⟩ K hK
    clear he
    obtain ⟨c, f⟩ := bcell hk
    go_simp
    have hR := Below.refl u.heap.size u
    exact hK _ _ ⟨_, _, _, _, _, _, rfl, hk, fun h => g0 (by simpa using h), fun h => g1 (by simpa using h), fun _ => rfl, fun h => g3 (by simpa using h), fun h => g4 (by simpa using h), fun h => (fun g => (by obtain ⟨B, y1, y2, e, hB, hO⟩ := g; exact ⟨B, y1, y2, e, hB, own_below hR hO⟩)) (g5 (by simpa using h)), fun h => (fun g => (by obtain ⟨B, e, hB, hO⟩ := g; exact ⟨B, e, hB, own_below hR hO⟩)) (g6 (by simpa using h))⟩
  case o6_3 =>
    rintro b a u hbi hcl he ⟨t6, t12, t13, t14, t15, t16, rfl, hk, g0, g1, g2, g3, g4, g5, g6⟩ K hK
    have p2 : b[2]? = some true := by simp [Region.binds] at he; simp [he]
    obtain rfl := g2 p2
    clear he
    go_simp
    refine (toLabel_any _ _ _).mono ?_
    rintro e u' ⟨rfl, hR⟩
    go_simp
    exact hK _ _ ⟨_, _, _, _, _, _, rfl, hk.trans (hR.mono hk.size), fun h => g0 (by simpa using h), fun h => g1 (by simpa using h), fun h => g2 (by simpa using h), fun _ => rfl, fun h => g4 (by simpa using h), fun h => (fun g => (by obtain ⟨B, y1, y2, e, hB, hO⟩ := g; exact ⟨B, y1, y2, e, hB, own_below hR hO⟩)) (g5 (by simpa using h)), fun h => (fun g => (by obtain ⟨B, e, hB, hO⟩ := g; exact ⟨B, e, hB, own_below hR hO⟩)) (g6 (by simpa using h))⟩
  case o6_4 =>
    rintro b a u hbi hcl he ⟨t6, t12, t13, t14, t15, t16, rfl, hk, g0, g1, g2, g3, g4, g5, g6⟩ K hK
    have p1 : b[1]? = some true := by simp [Region.binds] at he; simp [he]
    have p3 : b[3]? = some true := by simp [Region.binds] at he; simp [he]
    obtain rfl := g1 p1
    obtain rfl := g3 p3
    clear he
    go_simp
    refine (labelMeet_any _ _ _ _ _).mono ?_
    rintro e u' ⟨rfl, hR⟩
    go_simp
    exact hK _ _ ⟨_, _, _, _, _, _, rfl, hk.trans (hR.mono hk.size), fun h => g0 (by simpa using h), fun h => g1 (by simpa using h), fun h => g2 (by simpa using h), fun h => g3 (by simpa using h), fun _ => rfl, fun h => (fun g => (by obtain ⟨B, y1, y2, e, hB, hO⟩ := g; exact ⟨B, y1, y2, e, hB, own_below hR hO⟩)) (g5 (by simpa using h)), fun h => (fun g => (by obtain ⟨B, e, hB, hO⟩ := g; exact ⟨B, e, hB, own_below hR hO⟩)) (g6 (by simpa using h))⟩
  case o6_5 =>
    rintro b a u hbi hcl he ⟨t6, t12, t13, t14, t15, t16, rfl, hk, g0, g1, g2, g3, g4, g5, g6⟩ K hK
    clear he
    go_simp
    have hR := (Below.refl u.heap.size u).alloc (Nat.le_refl _) (.cells #[.int .i64 0, .int .i64 0] 25)
    exact hK _ _ ⟨_, _, _, _, _, _, rfl, hk.trans (hR.mono hk.size), fun h => g0 (by simpa using h), fun h => g1 (by simpa using h), fun h => g2 (by simpa using h), fun h => g3 (by simpa using h), fun h => g4 (by simpa using h), fun _ => ⟨_, _, _, rfl, hk.size, own_new _ _⟩, fun h => (by have hn := hcl 6 _ rfl (by simpa using h); simp [Region.binds, hbi] at hn)⟩
  case o6_6 =>
    rintro b a u hbi hcl he ⟨t6, t12, t13, t14, t15, t16, rfl, hk, g0, g1, g2, g3, g4, g5, g6⟩ K hK
    have p4 : b[4]? = some true := by simp [Region.binds] at he; simp [he]
    have p5 : b[5]? = some true := by simp [Region.binds] at he; simp [he]
    obtain rfl := g4 p4
    obtain ⟨B, y1, y2, rfl, hB, hO⟩ := g5 p5
    clear he
    obtain ⟨oc, of⟩ := own_cells hO
    go_simp
    exact hK _ _ ⟨_, _, _, _, _, _, rfl, (hk.setCell hB _).setCell hB _, fun h => g0 (by simpa using h), fun h => g1 (by simpa using h), fun h => g2 (by simpa using h), fun h => g3 (by simpa using h), fun h => g4 (by simpa using h), fun h => (fun g => ⟨B, _, _, rfl, hB, own_set (own_set hO _ _) _ _⟩) (g5 (by simpa using h)), fun _ => ⟨B, rfl, hB, own_set (own_set hO _ _) _ _⟩⟩
  rintro a u ⟨t6, t12, t13, t14, t15, t16, rfl, hk, g0, g1, g2, g3, g4, g5, g6⟩
  replace g0 := g0 (by simp)
  replace g1 := g1 (by simp)
  replace g2 := g2 (by simp)
  replace g3 := g3 (by simp)
  replace g4 := g4 (by simp)
  replace g5 := g5 (by simp)
  replace g6 := g6 (by simp)
  obtain rfl := g0
  obtain rfl := g1
  obtain rfl := g2
  obtain rfl := g3
  obtain rfl := g4
  obtain ⟨B2, rfl, hB2, hO2⟩ := g6
  clear g5
  have hO3 := own_below hk hO1
  have t2 : Below w.heap.size w u := tV.trans (hk.mono tV.size)
  obtain ⟨oc1, of1⟩ := own_cells hO3
  obtain ⟨oc2, of2⟩ := own_cells hO2
  have zE : w.heap.size ≤ u.heap.size := t2.size
  have hq : lblEq (meetS s1 v1 s2 v2) (meetV s1 v1 s2 v2) (meetS s1 v1 s2 v2) (meetV s1 v1 s2 v2) = true := by simp [lblEq]
  go_wp2_with fail
  refine (eqLabel_any _ _ _ _ _).mono ?_
  rintro e w3 ⟨rfl, b3⟩
  have z3 := b3.size
  try simp at z3
  have t3 : Below w.heap.size w w3 := by
    refine Below.trans ?_ (b3.mono ?_)
    · (repeat (first | exact t2 | (refine Below.alloc ?_ ?_ _) | (refine Below.setCell ?_ ?_ _) | refine Below.drew ?_)); (all_goals (first | omega | (simp <;> omega)))
    · first | omega | (simp <;> omega)
  obtain ⟨c3, f3⟩ := bcell b3
  clear b3
  go_wp2_with fail
  go_ret
  exact ⟨rfl, t3⟩
end Go.Proofs.Ytboajcaajccmdaa
