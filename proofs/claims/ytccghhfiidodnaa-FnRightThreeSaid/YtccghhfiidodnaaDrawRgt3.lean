/- The drawn pair of rights: a contract of the reference's DrawRightIn. No condition but that the code is a row of bytes. -/
import Derived.Test.YtccghhfiidodnaaDrawRgt2
namespace Go.Proofs.Ytccghhfiidodnaa
open Go.RowKit
set_option linter.unusedVariables false

theorem RdC.step {x : Nat} {p : Int} {b : List Bool} {js : List Nat} {u u' : World} {i : Nat} (h : RdC x p b js u) (hi : i ∉ js) (hr : ∀ q, Rd u x q → Rd u' x q) : RdC x p (b.set i true) js u' := by
  obtain ⟨q, h1, h2, h3⟩ := h
  exact ⟨q, h1, by rw [Cnt_other hi]; exact h2, hr q h3⟩
set_option maxHeartbeats 4000000 in
theorem drawRightIn_any (a : Option Addr) (len cap : Nat) (z : List Int) (w : World) (hr : IsRow .u8 w a len cap z) :
    Calls Try.prog 21 #[.slice a len cap] w (RightsDrawn2 w) := by
  have hC := own_alloc (own_new w (.cells #[.int .i64 0, .int .i64 0, .bool false, .bool false, .bool false] 25)) (.cells #[.int .i64 0, .int .i64 0, .bool false, .bool false, .bool false] 25)
  have hD := own_new (w.alloc (.cells #[.int .i64 0, .int .i64 0, .bool false, .bool false, .bool false] 25)) (.cells #[.int .i64 0, .int .i64 0, .bool false, .bool false, .bool false] 25)
  simp only [World.size_alloc] at hD
  go_enter Try.func21, Try.ntmps21
  go_wp2_with fail
  refine (l6Open_any _ _ _ _ _ ((hr.alloc _).alloc _)).mono ?_
  rintro e w0 ⟨x, hx0, rfl, r0, b0⟩
  have z0 := b0.size
  try simp at z0
  have lx0 := r0.lt
  try simp at hx0
  have z0_0 : w.heap.size < w0.heap.size := by omega
  have y0_0 : ¬ w.heap.size = x := by omega
  have z0_1 : w.heap.size + 1 < w0.heap.size := by omega
  have y0_1 : ¬ w.heap.size + 1 = x := by omega
  have t0 : Kept x w w0 := by
    refine Kept.of_below ?_ b0
    · repeat (first | exact Kept.refl _ _ | refine Kept.alloc ?_ _)
  obtain ⟨c0, f0⟩ := bcell b0
  replace hC := own_below b0 hC
  replace hD := own_below b0 hD
  clear b0 c0 f0
  go_wp2_with fail
  refine (l71Right_any _ _ _ (by (repeat (first | with_reducible exact r0 | with_reducible apply Rd.setCell | with_reducible apply Rd.alloc | with_reducible apply Rd.drew)); (all_goals (first | omega | (simp <;> omega)))) (by omega) (by omega)).mono ?_
  rintro e w1 ⟨q1, v1, r'1, k'1, l1, rfl, _, _, _, _, p1, lp1, up1, r1, k1⟩
  have z1 := k1.size
  try simp at z1
  have lx1 := r1.lt
  have z1_0 : w.heap.size < w1.heap.size := by omega
  have y1_0 : ¬ w.heap.size = x := by omega
  have z1_1 : w.heap.size + 1 < w1.heap.size := by omega
  have y1_1 : ¬ w.heap.size + 1 = x := by omega
  have t1 : Kept x w w1 := by
    refine Kept.trans ?_ k1
    · (repeat (first | with_reducible exact t0 | with_reducible refine Kept.setCell_new ?_ ?_ _ | with_reducible refine Kept.alloc ?_ _ | with_reducible refine Kept.drew ?_)); (all_goals (first | omega | (simp <;> omega)))
  obtain ⟨c1, f1⟩ := kcell k1
  replace hC := own_kept k1 (by omega) hC
  replace hD := own_kept k1 (by omega) hD
  have hA := own_new w1 (.cells #[.int .i64 q1, .int .i64 v1, .bool r'1, .bool k'1, .bool l1] 25)
  clear c1 f1 k1
  go_wp2_with fail
  refine (l71Right_any _ _ _ (by (repeat (first | with_reducible exact r1 | with_reducible apply Rd.setCell | with_reducible apply Rd.alloc | with_reducible apply Rd.drew)); (all_goals (first | omega | (simp <;> omega)))) (by omega) (by omega)).mono ?_
  rintro e w2 ⟨q2, v2, r'2, k'2, l2, rfl, _, _, _, _, p2, lp2, up2, r2, k2⟩
  have z2 := k2.size
  try simp at z2
  have lx2 := r2.lt
  have z2_0 : w.heap.size < w2.heap.size := by omega
  have y2_0 : ¬ w.heap.size = x := by omega
  have z2_1 : w.heap.size + 1 < w2.heap.size := by omega
  have y2_1 : ¬ w.heap.size + 1 = x := by omega
  have z2_2 : w1.heap.size < w2.heap.size := by omega
  have y2_2 : ¬ w1.heap.size = x := by omega
  have t2 : Kept x w w2 := by
    refine Kept.trans ?_ k2
    · (repeat (first | with_reducible exact t1 | with_reducible refine Kept.setCell_new ?_ ?_ _ | with_reducible refine Kept.alloc ?_ _ | with_reducible refine Kept.drew ?_)); (all_goals (first | omega | (simp <;> omega)))
  obtain ⟨c2, f2⟩ := kcell k2
  replace hC := own_kept k2 (by omega) (own_alloc hC _)
  replace hD := own_kept k2 (by omega) (own_alloc hD _)
  replace hA := own_kept k2 (by omega) hA
  have hB := own_new w2 (.cells #[.int .i64 q2, .int .i64 v2, .bool r'2, .bool k'2, .bool l2] 25)
  clear c2 f2 k2
  go_wp2_with fail
  refine (pick_any _ _ _ _ (by (repeat (first | with_reducible exact r2 | with_reducible apply Rd.setCell | with_reducible apply Rd.alloc | with_reducible apply Rd.drew)); (all_goals (first | omega | (simp <;> omega)))) (by omega) (by omega)).mono ?_
  rintro e w3 ⟨m3, rfl, lo3, hi3, _, r3, k3⟩
  replace hi3 := hi3 (by omega)
  have z3 := k3.size
  try simp at z3
  have lx3 := r3.lt
  have z3_0 : w.heap.size < w3.heap.size := by omega
  have y3_0 : ¬ w.heap.size = x := by omega
  have z3_1 : w.heap.size + 1 < w3.heap.size := by omega
  have y3_1 : ¬ w.heap.size + 1 = x := by omega
  have z3_2 : w1.heap.size < w3.heap.size := by omega
  have y3_2 : ¬ w1.heap.size = x := by omega
  have z3_3 : w2.heap.size < w3.heap.size := by omega
  have y3_3 : ¬ w2.heap.size = x := by omega
  have t3 : Kept x w w3 := by
    refine Kept.trans ?_ k3
    · (repeat (first | with_reducible exact t2 | with_reducible refine Kept.setCell_new ?_ ?_ _ | with_reducible refine Kept.alloc ?_ _ | with_reducible refine Kept.drew ?_)); (all_goals (first | omega | (simp <;> omega)))
  obtain ⟨c3, f3⟩ := kcell k3
  replace hC := own_kept k3 (by omega) (own_alloc hC _)
  replace hD := own_kept k3 (by omega) (own_alloc hD _)
  replace hA := own_kept k3 (by omega) (own_alloc hA _)
  replace hB := own_kept k3 (by omega) hB
  clear c3 f3 k3
  cases h0 : (m3 == 0)
  · obtain ⟨cA, fA⟩ := own_cells hA
    obtain ⟨cB, fB⟩ := own_cells hB
    cases h1 : (m3 == 1)
    · go_wp2_with fail
      refine wp_region_each (by kernel_rfl) (by kernel_rfl) (by kernel_rfl) (fun b ac u => ∃ t37 t38 : Value, ac = ⟨#[.slice a len cap, undef, .pointer (some ⟨w.heap.size, 0, none⟩), .pointer (some ⟨w.heap.size + 1, 0, none⟩), .pointer (some ⟨x, 0, none⟩), .pointer (some ⟨w1.heap.size, 0, none⟩), .pointer (some ⟨w2.heap.size, 0, none⟩), .slice a len cap, .pointer (some ⟨x, 0, none⟩), .pointer (some ⟨x, 0, none⟩), .agg #[.int .i64 q1, .int .i64 v1, .bool r'1, .bool k'1, .bool l1], .pointer (some ⟨x, 0, none⟩), .agg #[.int .i64 q2, .int .i64 v2, .bool r'2, .bool k'2, .bool l2], .pointer (some ⟨x, 0, none⟩), .int .i64 m3, .bool false, .bool false, undef, undef, undef, undef, undef, undef, undef, undef, undef, undef, undef, undef, .bool false, .bool false, undef, undef, undef, undef, undef, undef, t37, t38], []⟩ ∧ (Kept x w u ∧ u.heap[w2.heap.size]? = some (.cells #[.int .i64 q2, .int .i64 v2, .bool r'2, .bool k'2, .bool l2] 25 (0, 0)) ∧ (∃ y1 y2 y3 y4 y5 : Value, u.heap[w.heap.size]? = some (.cells #[y1, y2, y3, y4, y5] 25 (0, 0))) ∧ (∃ y1 y2 y3 y4 y5 : Value, u.heap[w.heap.size + 1]? = some (.cells #[y1, y2, y3, y4, y5] 25 (0, 0))) ∧ u.heap[w1.heap.size]? = some (.cells #[.int .i64 q1, .int .i64 v1, .bool r'1, .bool k'1, .bool l1] 25 (0, 0))) ∧ (b[0]? = some true → t37 = .agg #[.int .i64 q1, .int .i64 v1, .bool r'1, .bool k'1, .bool l1]) ∧ (b[1]? = some true → t38 = .agg #[.int .i64 q2, .int .i64 v2, .bool r'2, .bool k'2, .bool l2]) ∧ (b[2]? = some true → u.heap[w.heap.size]? = some (.cells #[.int .i64 q1, .int .i64 v1, .bool r'1, .bool k'1, .bool l1] 25 (0, 0))) ∧ (b[3]? = some true → u.heap[w.heap.size + 1]? = some (.cells #[.int .i64 q2, .int .i64 v2, .bool r'2, .bool k'2, .bool l2] 25 (0, 0)))) ?h0_1 ⟨?o1_0, ?o1_1, ?o1_2, ?o1_3, trivial⟩ ?hend_1
      case h0_1 => exact ⟨undef, undef, rfl, ⟨t3.drew, hB, ⟨_, _, _, _, _, hC⟩, ⟨_, _, _, _, _, hD⟩, hA⟩, by simp, by simp, by simp, by simp⟩
      case o1_0 =>
        rintro b ac u hbl hbi hcl he ⟨t37, t38, rfl, hk, g0, g1, g2, g3⟩ K hK
        clear he
        obtain ⟨hk1, hB, ⟨y1, y2, y3, y4, y5, hC⟩, ⟨z1, z2, z3, z4, z5, hD⟩, hA⟩ := hk
        obtain ⟨_, _⟩ := own_cells hB
        obtain ⟨_, _⟩ := own_cells hA
        obtain ⟨_, _⟩ := own_cells hC
        obtain ⟨_, _⟩ := own_cells hD
        go_simp
        have hR := Below.refl u.heap.size u
        have hS := Kept.refl x u
        exact hK _ _ ⟨_, _, rfl, ⟨hk1, hB, ⟨y1, y2, y3, y4, y5, hC⟩, ⟨z1, z2, z3, z4, z5, hD⟩, hA⟩, fun _ => rfl, fun h => g1 (by simpa using h), fun h => (fun g => own_kept hS (by omega) g) (g2 (by simpa using h)), fun h => (fun g => own_kept hS (by omega) g) (g3 (by simpa using h))⟩
      case o1_1 =>
        rintro b ac u hbl hbi hcl he ⟨t37, t38, rfl, hk, g0, g1, g2, g3⟩ K hK
        clear he
        obtain ⟨hk1, hB, ⟨y1, y2, y3, y4, y5, hC⟩, ⟨z1, z2, z3, z4, z5, hD⟩, hA⟩ := hk
        obtain ⟨_, _⟩ := own_cells hB
        obtain ⟨_, _⟩ := own_cells hA
        obtain ⟨_, _⟩ := own_cells hC
        obtain ⟨_, _⟩ := own_cells hD
        go_simp
        have hR := Below.refl u.heap.size u
        have hS := Kept.refl x u
        exact hK _ _ ⟨_, _, rfl, ⟨hk1, hB, ⟨y1, y2, y3, y4, y5, hC⟩, ⟨z1, z2, z3, z4, z5, hD⟩, hA⟩, fun h => g0 (by simpa using h), fun _ => rfl, fun h => (fun g => own_kept hS (by omega) g) (g2 (by simpa using h)), fun h => (fun g => own_kept hS (by omega) g) (g3 (by simpa using h))⟩
      case o1_2 =>
        rintro b ac u hbl hbi hcl he ⟨t37, t38, rfl, hk, g0, g1, g2, g3⟩ K hK
        have p0 : b[0]? = some true := by simp [Region.binds] at he; simp [he]
        obtain rfl := g0 p0
        clear he
        obtain ⟨hk1, hB, ⟨y1, y2, y3, y4, y5, hC⟩, ⟨z1, z2, z3, z4, z5, hD⟩, hA⟩ := hk
        obtain ⟨_, _⟩ := own_cells hB
        obtain ⟨_, _⟩ := own_cells hA
        obtain ⟨_, _⟩ := own_cells hC
        obtain ⟨_, _⟩ := own_cells hD
        go_simp
        have hS : Kept x u u := Kept.refl x u
        exact hK _ _ ⟨_, _, rfl, ⟨(((((hk1).setCell_new (p := ⟨w.heap.size, 0, none⟩) (show w.heap.size ≤ w.heap.size by omega) _).setCell_new (p := ⟨w.heap.size, 1, none⟩) (show w.heap.size ≤ w.heap.size by omega) _).setCell_new (p := ⟨w.heap.size, 2, none⟩) (show w.heap.size ≤ w.heap.size by omega) _).setCell_new (p := ⟨w.heap.size, 3, none⟩) (show w.heap.size ≤ w.heap.size by omega) _).setCell_new (p := ⟨w.heap.size, 4, none⟩) (show w.heap.size ≤ w.heap.size by omega) _, own_set_ne (own_set_ne (own_set_ne (own_set_ne (own_set_ne (hB) (p := ⟨w.heap.size, 0, none⟩) (show w.heap.size ≠ w2.heap.size by omega) _) (p := ⟨w.heap.size, 1, none⟩) (show w.heap.size ≠ w2.heap.size by omega) _) (p := ⟨w.heap.size, 2, none⟩) (show w.heap.size ≠ w2.heap.size by omega) _) (p := ⟨w.heap.size, 3, none⟩) (show w.heap.size ≠ w2.heap.size by omega) _) (p := ⟨w.heap.size, 4, none⟩) (show w.heap.size ≠ w2.heap.size by omega) _, ⟨_, _, _, _, _, own_set (own_set (own_set (own_set (own_set (hC) 0 _) 1 _) 2 _) 3 _) 4 _⟩, ⟨z1, z2, z3, z4, z5, own_set_ne (own_set_ne (own_set_ne (own_set_ne (own_set_ne (hD) (p := ⟨w.heap.size, 0, none⟩) (show w.heap.size ≠ w.heap.size + 1 by omega) _) (p := ⟨w.heap.size, 1, none⟩) (show w.heap.size ≠ w.heap.size + 1 by omega) _) (p := ⟨w.heap.size, 2, none⟩) (show w.heap.size ≠ w.heap.size + 1 by omega) _) (p := ⟨w.heap.size, 3, none⟩) (show w.heap.size ≠ w.heap.size + 1 by omega) _) (p := ⟨w.heap.size, 4, none⟩) (show w.heap.size ≠ w.heap.size + 1 by omega) _⟩, own_set_ne (own_set_ne (own_set_ne (own_set_ne (own_set_ne (hA) (p := ⟨w.heap.size, 0, none⟩) (show w.heap.size ≠ w1.heap.size by omega) _) (p := ⟨w.heap.size, 1, none⟩) (show w.heap.size ≠ w1.heap.size by omega) _) (p := ⟨w.heap.size, 2, none⟩) (show w.heap.size ≠ w1.heap.size by omega) _) (p := ⟨w.heap.size, 3, none⟩) (show w.heap.size ≠ w1.heap.size by omega) _) (p := ⟨w.heap.size, 4, none⟩) (show w.heap.size ≠ w1.heap.size by omega) _⟩, fun h => g0 (by simpa using h), fun h => g1 (by simpa using h), fun _ => own_set (own_set (own_set (own_set (own_set (hC) 0 _) 1 _) 2 _) 3 _) 4 _, fun h => (fun g => own_set_ne (own_set_ne (own_set_ne (own_set_ne (own_set_ne (g) (p := ⟨w.heap.size, 0, none⟩) (show w.heap.size ≠ w.heap.size + 1 by omega) _) (p := ⟨w.heap.size, 1, none⟩) (show w.heap.size ≠ w.heap.size + 1 by omega) _) (p := ⟨w.heap.size, 2, none⟩) (show w.heap.size ≠ w.heap.size + 1 by omega) _) (p := ⟨w.heap.size, 3, none⟩) (show w.heap.size ≠ w.heap.size + 1 by omega) _) (p := ⟨w.heap.size, 4, none⟩) (show w.heap.size ≠ w.heap.size + 1 by omega) _) (g3 (by simpa using h))⟩
      case o1_3 =>
        rintro b ac u hbl hbi hcl he ⟨t37, t38, rfl, hk, g0, g1, g2, g3⟩ K hK
        have p1 : b[1]? = some true := by simp [Region.binds] at he; simp [he]
        obtain rfl := g1 p1
        clear he
        obtain ⟨hk1, hB, ⟨y1, y2, y3, y4, y5, hC⟩, ⟨z1, z2, z3, z4, z5, hD⟩, hA⟩ := hk
        obtain ⟨_, _⟩ := own_cells hB
        obtain ⟨_, _⟩ := own_cells hA
        obtain ⟨_, _⟩ := own_cells hC
        obtain ⟨_, _⟩ := own_cells hD
        go_simp
        have hS : Kept x u u := Kept.refl x u
        exact hK _ _ ⟨_, _, rfl, ⟨(((((hk1).setCell_new (p := ⟨w.heap.size + 1, 0, none⟩) (show w.heap.size ≤ w.heap.size + 1 by omega) _).setCell_new (p := ⟨w.heap.size + 1, 1, none⟩) (show w.heap.size ≤ w.heap.size + 1 by omega) _).setCell_new (p := ⟨w.heap.size + 1, 2, none⟩) (show w.heap.size ≤ w.heap.size + 1 by omega) _).setCell_new (p := ⟨w.heap.size + 1, 3, none⟩) (show w.heap.size ≤ w.heap.size + 1 by omega) _).setCell_new (p := ⟨w.heap.size + 1, 4, none⟩) (show w.heap.size ≤ w.heap.size + 1 by omega) _, own_set_ne (own_set_ne (own_set_ne (own_set_ne (own_set_ne (hB) (p := ⟨w.heap.size + 1, 0, none⟩) (show w.heap.size + 1 ≠ w2.heap.size by omega) _) (p := ⟨w.heap.size + 1, 1, none⟩) (show w.heap.size + 1 ≠ w2.heap.size by omega) _) (p := ⟨w.heap.size + 1, 2, none⟩) (show w.heap.size + 1 ≠ w2.heap.size by omega) _) (p := ⟨w.heap.size + 1, 3, none⟩) (show w.heap.size + 1 ≠ w2.heap.size by omega) _) (p := ⟨w.heap.size + 1, 4, none⟩) (show w.heap.size + 1 ≠ w2.heap.size by omega) _, ⟨y1, y2, y3, y4, y5, own_set_ne (own_set_ne (own_set_ne (own_set_ne (own_set_ne (hC) (p := ⟨w.heap.size + 1, 0, none⟩) (show w.heap.size + 1 ≠ w.heap.size by omega) _) (p := ⟨w.heap.size + 1, 1, none⟩) (show w.heap.size + 1 ≠ w.heap.size by omega) _) (p := ⟨w.heap.size + 1, 2, none⟩) (show w.heap.size + 1 ≠ w.heap.size by omega) _) (p := ⟨w.heap.size + 1, 3, none⟩) (show w.heap.size + 1 ≠ w.heap.size by omega) _) (p := ⟨w.heap.size + 1, 4, none⟩) (show w.heap.size + 1 ≠ w.heap.size by omega) _⟩, ⟨_, _, _, _, _, own_set (own_set (own_set (own_set (own_set (hD) 0 _) 1 _) 2 _) 3 _) 4 _⟩, own_set_ne (own_set_ne (own_set_ne (own_set_ne (own_set_ne (hA) (p := ⟨w.heap.size + 1, 0, none⟩) (show w.heap.size + 1 ≠ w1.heap.size by omega) _) (p := ⟨w.heap.size + 1, 1, none⟩) (show w.heap.size + 1 ≠ w1.heap.size by omega) _) (p := ⟨w.heap.size + 1, 2, none⟩) (show w.heap.size + 1 ≠ w1.heap.size by omega) _) (p := ⟨w.heap.size + 1, 3, none⟩) (show w.heap.size + 1 ≠ w1.heap.size by omega) _) (p := ⟨w.heap.size + 1, 4, none⟩) (show w.heap.size + 1 ≠ w1.heap.size by omega) _⟩, fun h => g0 (by simpa using h), fun h => g1 (by simpa using h), fun h => (fun g => own_set_ne (own_set_ne (own_set_ne (own_set_ne (own_set_ne (g) (p := ⟨w.heap.size + 1, 0, none⟩) (show w.heap.size + 1 ≠ w.heap.size by omega) _) (p := ⟨w.heap.size + 1, 1, none⟩) (show w.heap.size + 1 ≠ w.heap.size by omega) _) (p := ⟨w.heap.size + 1, 2, none⟩) (show w.heap.size + 1 ≠ w.heap.size by omega) _) (p := ⟨w.heap.size + 1, 3, none⟩) (show w.heap.size + 1 ≠ w.heap.size by omega) _) (p := ⟨w.heap.size + 1, 4, none⟩) (show w.heap.size + 1 ≠ w.heap.size by omega) _) (g2 (by simpa using h)), fun _ => own_set (own_set (own_set (own_set (own_set (hD) 0 _) 1 _) 2 _) 3 _) 4 _⟩
      rintro ac u ⟨t37, t38, rfl, hk, g0, g1, g2, g3⟩
      replace g0 := g0 (by simp)
      replace g1 := g1 (by simp)
      replace g2 := g2 (by simp)
      replace g3 := g3 (by simp)
      obtain rfl := g0
      obtain rfl := g1
      have hE := g2
      obtain ⟨hk1, _⟩ := hk
      obtain ⟨cE, _⟩ := own_cells hE
      obtain ⟨cF, _⟩ := own_cells g3
      go_wp2_with fail
      refine bodyPost_ret (v := .tuple #[.agg #[.int .i64 q1, .int .i64 v1, .bool r'1, .bool k'1, .bool l1], .agg #[.int .i64 q2, .int .i64 v2, .bool r'2, .bool k'2, .bool l2]]) ?_ rfl ?_
      · simp only [results, Try.results21]
        go_simp
      · exact ⟨_, _, _, _, _, _, _, _, _, _, rfl, Kept.below' (x := x) hk1 (by omega)⟩
    · go_wp2_with fail
      refine named (p := fun W => Code.wp _ _ _ _ W) _ ?_
      intro W hW
      have tW : Kept x w W := by
        rw [← hW]
        (repeat (first | with_reducible exact t3 | with_reducible refine Kept.setCell_new ?_ ?_ _ | with_reducible refine Kept.alloc ?_ _ | with_reducible refine Kept.drew ?_)); (all_goals (first | omega | (simp <;> omega)))
      have rW : Rd W x (p2 + 1) := by
        rw [← hW]
        (repeat (first | with_reducible exact r3 | with_reducible apply Rd.setCell | with_reducible apply Rd.alloc | with_reducible apply Rd.drew)); (all_goals (first | omega | (simp <;> omega)))
      replace hA : W.heap[w1.heap.size]? = some (.cells #[.int .i64 q2, .int .i64 v2, .bool r'1, .bool k'1, .bool l1] 25 (0, 0)) := by rw [← hW]; exact own_set (own_set hA 0 _) 1 _
      replace hB : W.heap[w2.heap.size]? = some (.cells #[.int .i64 q2, .int .i64 v2, .bool r'2, .bool k'2, .bool l2] 25 (0, 0)) := by rw [← hW]; exact own_set_ne (own_set_ne hB (p := ⟨w1.heap.size, 0, none⟩) (show w1.heap.size ≠ w2.heap.size by omega) _) (p := ⟨w1.heap.size, 1, none⟩) (show w1.heap.size ≠ w2.heap.size by omega) _
      replace hC : W.heap[w.heap.size]? = some (.cells #[.int .i64 0, .int .i64 0, .bool false, .bool false, .bool false] 25 (0, 0)) := by rw [← hW]; exact own_set_ne (own_set_ne hC (p := ⟨w1.heap.size, 0, none⟩) (show w1.heap.size ≠ w.heap.size by omega) _) (p := ⟨w1.heap.size, 1, none⟩) (show w1.heap.size ≠ w.heap.size by omega) _
      replace hD : W.heap[w.heap.size + 1]? = some (.cells #[.int .i64 0, .int .i64 0, .bool false, .bool false, .bool false] 25 (0, 0)) := by rw [← hW]; exact own_set_ne (own_set_ne hD (p := ⟨w1.heap.size, 0, none⟩) (show w1.heap.size ≠ w.heap.size + 1 by omega) _) (p := ⟨w1.heap.size, 1, none⟩) (show w1.heap.size ≠ w.heap.size + 1 by omega) _
      clear hW cA fA cB fB
      refine wp_region_each (by kernel_rfl) (by kernel_rfl) (by kernel_rfl) (fun b ac u => ∃ t37 t38 : Value, ac = ⟨#[.slice a len cap, undef, .pointer (some ⟨w.heap.size, 0, none⟩), .pointer (some ⟨w.heap.size + 1, 0, none⟩), .pointer (some ⟨x, 0, none⟩), .pointer (some ⟨w1.heap.size, 0, none⟩), .pointer (some ⟨w2.heap.size, 0, none⟩), .slice a len cap, .pointer (some ⟨x, 0, none⟩), .pointer (some ⟨x, 0, none⟩), .agg #[.int .i64 q1, .int .i64 v1, .bool r'1, .bool k'1, .bool l1], .pointer (some ⟨x, 0, none⟩), .agg #[.int .i64 q2, .int .i64 v2, .bool r'2, .bool k'2, .bool l2], .pointer (some ⟨x, 0, none⟩), .int .i64 m3, .bool false, .bool false, undef, undef, undef, undef, undef, undef, undef, undef, undef, undef, undef, undef, .bool true, .bool true, .pointer (some ⟨w2.heap.size, 0, none⟩), .int .i64 q2, .pointer (some ⟨w1.heap.size, 0, none⟩), .pointer (some ⟨w2.heap.size, 1, none⟩), .int .i64 v2, .pointer (some ⟨w1.heap.size, 1, none⟩), t37, t38], []⟩ ∧ (Kept x w u ∧ u.heap[w2.heap.size]? = some (.cells #[.int .i64 q2, .int .i64 v2, .bool r'2, .bool k'2, .bool l2] 25 (0, 0)) ∧ (∃ y1 y2 y3 y4 y5 : Value, u.heap[w.heap.size]? = some (.cells #[y1, y2, y3, y4, y5] 25 (0, 0))) ∧ (∃ y1 y2 y3 y4 y5 : Value, u.heap[w.heap.size + 1]? = some (.cells #[y1, y2, y3, y4, y5] 25 (0, 0))) ∧ u.heap[w1.heap.size]? = some (.cells #[.int .i64 q2, .int .i64 v2, .bool r'1, .bool k'1, .bool l1] 25 (0, 0))) ∧ (b[0]? = some true → t37 = .agg #[.int .i64 q2, .int .i64 v2, .bool r'1, .bool k'1, .bool l1]) ∧ (b[1]? = some true → t38 = .agg #[.int .i64 q2, .int .i64 v2, .bool r'2, .bool k'2, .bool l2]) ∧ (b[2]? = some true → u.heap[w.heap.size]? = some (.cells #[.int .i64 q2, .int .i64 v2, .bool r'1, .bool k'1, .bool l1] 25 (0, 0))) ∧ (b[3]? = some true → u.heap[w.heap.size + 1]? = some (.cells #[.int .i64 q2, .int .i64 v2, .bool r'2, .bool k'2, .bool l2] 25 (0, 0)))) ?h0_2 ⟨?o2_0, ?o2_1, ?o2_2, ?o2_3, trivial⟩ ?hend_2
      case h0_2 => exact ⟨undef, undef, rfl, ⟨tW.drew, hB, ⟨_, _, _, _, _, hC⟩, ⟨_, _, _, _, _, hD⟩, hA⟩, by simp, by simp, by simp, by simp⟩
      case o2_0 =>
        rintro b ac u hbl hbi hcl he ⟨t37, t38, rfl, hk, g0, g1, g2, g3⟩ K hK
        clear he
        obtain ⟨hk1, hB, ⟨y1, y2, y3, y4, y5, hC⟩, ⟨z1, z2, z3, z4, z5, hD⟩, hA⟩ := hk
        obtain ⟨_, _⟩ := own_cells hB
        obtain ⟨_, _⟩ := own_cells hA
        obtain ⟨_, _⟩ := own_cells hC
        obtain ⟨_, _⟩ := own_cells hD
        go_simp
        have hR := Below.refl u.heap.size u
        have hS := Kept.refl x u
        exact hK _ _ ⟨_, _, rfl, ⟨hk1, hB, ⟨y1, y2, y3, y4, y5, hC⟩, ⟨z1, z2, z3, z4, z5, hD⟩, hA⟩, fun _ => rfl, fun h => g1 (by simpa using h), fun h => (fun g => own_kept hS (by omega) g) (g2 (by simpa using h)), fun h => (fun g => own_kept hS (by omega) g) (g3 (by simpa using h))⟩
      case o2_1 =>
        rintro b ac u hbl hbi hcl he ⟨t37, t38, rfl, hk, g0, g1, g2, g3⟩ K hK
        clear he
        obtain ⟨hk1, hB, ⟨y1, y2, y3, y4, y5, hC⟩, ⟨z1, z2, z3, z4, z5, hD⟩, hA⟩ := hk
        obtain ⟨_, _⟩ := own_cells hB
        obtain ⟨_, _⟩ := own_cells hA
        obtain ⟨_, _⟩ := own_cells hC
        obtain ⟨_, _⟩ := own_cells hD
        go_simp
        have hR := Below.refl u.heap.size u
        have hS := Kept.refl x u
        exact hK _ _ ⟨_, _, rfl, ⟨hk1, hB, ⟨y1, y2, y3, y4, y5, hC⟩, ⟨z1, z2, z3, z4, z5, hD⟩, hA⟩, fun h => g0 (by simpa using h), fun _ => rfl, fun h => (fun g => own_kept hS (by omega) g) (g2 (by simpa using h)), fun h => (fun g => own_kept hS (by omega) g) (g3 (by simpa using h))⟩
      case o2_2 =>
        rintro b ac u hbl hbi hcl he ⟨t37, t38, rfl, hk, g0, g1, g2, g3⟩ K hK
        have p0 : b[0]? = some true := by simp [Region.binds] at he; simp [he]
        obtain rfl := g0 p0
        clear he
        obtain ⟨hk1, hB, ⟨y1, y2, y3, y4, y5, hC⟩, ⟨z1, z2, z3, z4, z5, hD⟩, hA⟩ := hk
        obtain ⟨_, _⟩ := own_cells hB
        obtain ⟨_, _⟩ := own_cells hA
        obtain ⟨_, _⟩ := own_cells hC
        obtain ⟨_, _⟩ := own_cells hD
        go_simp
        have hS : Kept x u u := Kept.refl x u
        exact hK _ _ ⟨_, _, rfl, ⟨(((((hk1).setCell_new (p := ⟨w.heap.size, 0, none⟩) (show w.heap.size ≤ w.heap.size by omega) _).setCell_new (p := ⟨w.heap.size, 1, none⟩) (show w.heap.size ≤ w.heap.size by omega) _).setCell_new (p := ⟨w.heap.size, 2, none⟩) (show w.heap.size ≤ w.heap.size by omega) _).setCell_new (p := ⟨w.heap.size, 3, none⟩) (show w.heap.size ≤ w.heap.size by omega) _).setCell_new (p := ⟨w.heap.size, 4, none⟩) (show w.heap.size ≤ w.heap.size by omega) _, own_set_ne (own_set_ne (own_set_ne (own_set_ne (own_set_ne (hB) (p := ⟨w.heap.size, 0, none⟩) (show w.heap.size ≠ w2.heap.size by omega) _) (p := ⟨w.heap.size, 1, none⟩) (show w.heap.size ≠ w2.heap.size by omega) _) (p := ⟨w.heap.size, 2, none⟩) (show w.heap.size ≠ w2.heap.size by omega) _) (p := ⟨w.heap.size, 3, none⟩) (show w.heap.size ≠ w2.heap.size by omega) _) (p := ⟨w.heap.size, 4, none⟩) (show w.heap.size ≠ w2.heap.size by omega) _, ⟨_, _, _, _, _, own_set (own_set (own_set (own_set (own_set (hC) 0 _) 1 _) 2 _) 3 _) 4 _⟩, ⟨z1, z2, z3, z4, z5, own_set_ne (own_set_ne (own_set_ne (own_set_ne (own_set_ne (hD) (p := ⟨w.heap.size, 0, none⟩) (show w.heap.size ≠ w.heap.size + 1 by omega) _) (p := ⟨w.heap.size, 1, none⟩) (show w.heap.size ≠ w.heap.size + 1 by omega) _) (p := ⟨w.heap.size, 2, none⟩) (show w.heap.size ≠ w.heap.size + 1 by omega) _) (p := ⟨w.heap.size, 3, none⟩) (show w.heap.size ≠ w.heap.size + 1 by omega) _) (p := ⟨w.heap.size, 4, none⟩) (show w.heap.size ≠ w.heap.size + 1 by omega) _⟩, own_set_ne (own_set_ne (own_set_ne (own_set_ne (own_set_ne (hA) (p := ⟨w.heap.size, 0, none⟩) (show w.heap.size ≠ w1.heap.size by omega) _) (p := ⟨w.heap.size, 1, none⟩) (show w.heap.size ≠ w1.heap.size by omega) _) (p := ⟨w.heap.size, 2, none⟩) (show w.heap.size ≠ w1.heap.size by omega) _) (p := ⟨w.heap.size, 3, none⟩) (show w.heap.size ≠ w1.heap.size by omega) _) (p := ⟨w.heap.size, 4, none⟩) (show w.heap.size ≠ w1.heap.size by omega) _⟩, fun h => g0 (by simpa using h), fun h => g1 (by simpa using h), fun _ => own_set (own_set (own_set (own_set (own_set (hC) 0 _) 1 _) 2 _) 3 _) 4 _, fun h => (fun g => own_set_ne (own_set_ne (own_set_ne (own_set_ne (own_set_ne (g) (p := ⟨w.heap.size, 0, none⟩) (show w.heap.size ≠ w.heap.size + 1 by omega) _) (p := ⟨w.heap.size, 1, none⟩) (show w.heap.size ≠ w.heap.size + 1 by omega) _) (p := ⟨w.heap.size, 2, none⟩) (show w.heap.size ≠ w.heap.size + 1 by omega) _) (p := ⟨w.heap.size, 3, none⟩) (show w.heap.size ≠ w.heap.size + 1 by omega) _) (p := ⟨w.heap.size, 4, none⟩) (show w.heap.size ≠ w.heap.size + 1 by omega) _) (g3 (by simpa using h))⟩
      case o2_3 =>
        rintro b ac u hbl hbi hcl he ⟨t37, t38, rfl, hk, g0, g1, g2, g3⟩ K hK
        have p1 : b[1]? = some true := by simp [Region.binds] at he; simp [he]
        obtain rfl := g1 p1
        clear he
        obtain ⟨hk1, hB, ⟨y1, y2, y3, y4, y5, hC⟩, ⟨z1, z2, z3, z4, z5, hD⟩, hA⟩ := hk
        obtain ⟨_, _⟩ := own_cells hB
        obtain ⟨_, _⟩ := own_cells hA
        obtain ⟨_, _⟩ := own_cells hC
        obtain ⟨_, _⟩ := own_cells hD
        go_simp
        have hS : Kept x u u := Kept.refl x u
        exact hK _ _ ⟨_, _, rfl, ⟨(((((hk1).setCell_new (p := ⟨w.heap.size + 1, 0, none⟩) (show w.heap.size ≤ w.heap.size + 1 by omega) _).setCell_new (p := ⟨w.heap.size + 1, 1, none⟩) (show w.heap.size ≤ w.heap.size + 1 by omega) _).setCell_new (p := ⟨w.heap.size + 1, 2, none⟩) (show w.heap.size ≤ w.heap.size + 1 by omega) _).setCell_new (p := ⟨w.heap.size + 1, 3, none⟩) (show w.heap.size ≤ w.heap.size + 1 by omega) _).setCell_new (p := ⟨w.heap.size + 1, 4, none⟩) (show w.heap.size ≤ w.heap.size + 1 by omega) _, own_set_ne (own_set_ne (own_set_ne (own_set_ne (own_set_ne (hB) (p := ⟨w.heap.size + 1, 0, none⟩) (show w.heap.size + 1 ≠ w2.heap.size by omega) _) (p := ⟨w.heap.size + 1, 1, none⟩) (show w.heap.size + 1 ≠ w2.heap.size by omega) _) (p := ⟨w.heap.size + 1, 2, none⟩) (show w.heap.size + 1 ≠ w2.heap.size by omega) _) (p := ⟨w.heap.size + 1, 3, none⟩) (show w.heap.size + 1 ≠ w2.heap.size by omega) _) (p := ⟨w.heap.size + 1, 4, none⟩) (show w.heap.size + 1 ≠ w2.heap.size by omega) _, ⟨y1, y2, y3, y4, y5, own_set_ne (own_set_ne (own_set_ne (own_set_ne (own_set_ne (hC) (p := ⟨w.heap.size + 1, 0, none⟩) (show w.heap.size + 1 ≠ w.heap.size by omega) _) (p := ⟨w.heap.size + 1, 1, none⟩) (show w.heap.size + 1 ≠ w.heap.size by omega) _) (p := ⟨w.heap.size + 1, 2, none⟩) (show w.heap.size + 1 ≠ w.heap.size by omega) _) (p := ⟨w.heap.size + 1, 3, none⟩) (show w.heap.size + 1 ≠ w.heap.size by omega) _) (p := ⟨w.heap.size + 1, 4, none⟩) (show w.heap.size + 1 ≠ w.heap.size by omega) _⟩, ⟨_, _, _, _, _, own_set (own_set (own_set (own_set (own_set (hD) 0 _) 1 _) 2 _) 3 _) 4 _⟩, own_set_ne (own_set_ne (own_set_ne (own_set_ne (own_set_ne (hA) (p := ⟨w.heap.size + 1, 0, none⟩) (show w.heap.size + 1 ≠ w1.heap.size by omega) _) (p := ⟨w.heap.size + 1, 1, none⟩) (show w.heap.size + 1 ≠ w1.heap.size by omega) _) (p := ⟨w.heap.size + 1, 2, none⟩) (show w.heap.size + 1 ≠ w1.heap.size by omega) _) (p := ⟨w.heap.size + 1, 3, none⟩) (show w.heap.size + 1 ≠ w1.heap.size by omega) _) (p := ⟨w.heap.size + 1, 4, none⟩) (show w.heap.size + 1 ≠ w1.heap.size by omega) _⟩, fun h => g0 (by simpa using h), fun h => g1 (by simpa using h), fun h => (fun g => own_set_ne (own_set_ne (own_set_ne (own_set_ne (own_set_ne (g) (p := ⟨w.heap.size + 1, 0, none⟩) (show w.heap.size + 1 ≠ w.heap.size by omega) _) (p := ⟨w.heap.size + 1, 1, none⟩) (show w.heap.size + 1 ≠ w.heap.size by omega) _) (p := ⟨w.heap.size + 1, 2, none⟩) (show w.heap.size + 1 ≠ w.heap.size by omega) _) (p := ⟨w.heap.size + 1, 3, none⟩) (show w.heap.size + 1 ≠ w.heap.size by omega) _) (p := ⟨w.heap.size + 1, 4, none⟩) (show w.heap.size + 1 ≠ w.heap.size by omega) _) (g2 (by simpa using h)), fun _ => own_set (own_set (own_set (own_set (own_set (hD) 0 _) 1 _) 2 _) 3 _) 4 _⟩
      rintro ac u ⟨t37, t38, rfl, hk, g0, g1, g2, g3⟩
      replace g0 := g0 (by simp)
      replace g1 := g1 (by simp)
      replace g2 := g2 (by simp)
      replace g3 := g3 (by simp)
      obtain rfl := g0
      obtain rfl := g1
      have hE := g2
      obtain ⟨hk1, _⟩ := hk
      obtain ⟨cE, _⟩ := own_cells hE
      obtain ⟨cF, _⟩ := own_cells g3
      go_wp2_with fail
      refine bodyPost_ret (v := .tuple #[.agg #[.int .i64 q2, .int .i64 v2, .bool r'1, .bool k'1, .bool l1], .agg #[.int .i64 q2, .int .i64 v2, .bool r'2, .bool k'2, .bool l2]]) ?_ rfl ?_
      · simp only [results, Try.results21]
        go_simp
      · exact ⟨_, _, _, _, _, _, _, _, _, _, rfl, Kept.below' (x := x) hk1 (by omega)⟩
  · go_wp2_with fail
    refine wp_region_each (by kernel_rfl) (by kernel_rfl) (by kernel_rfl) (fun b ac u => ∃ t17 t18 t19 t20 t21 t22 t23 t24 t25 t26 t27 t28 : Value, ac = ⟨#[.slice a len cap, undef, .pointer (some ⟨w.heap.size, 0, none⟩), .pointer (some ⟨w.heap.size + 1, 0, none⟩), .pointer (some ⟨x, 0, none⟩), .pointer (some ⟨w1.heap.size, 0, none⟩), .pointer (some ⟨w2.heap.size, 0, none⟩), .slice a len cap, .pointer (some ⟨x, 0, none⟩), .pointer (some ⟨x, 0, none⟩), .agg #[.int .i64 q1, .int .i64 v1, .bool r'1, .bool k'1, .bool l1], .pointer (some ⟨x, 0, none⟩), .agg #[.int .i64 q2, .int .i64 v2, .bool r'2, .bool k'2, .bool l2], .pointer (some ⟨x, 0, none⟩), .int .i64 m3, .bool true, .bool true, t17, t18, t19, t20, t21, t22, t23, t24, t25, t26, t27, t28, undef, undef, undef, undef, undef, undef, undef, undef, undef, undef], []⟩ ∧ (Kept x w u ∧ (b[12]? = some true ∨ RdC x (p2 + 1) b [2, 5, 8] u) ∧ u.heap[w2.heap.size]? = some (.cells #[.int .i64 q2, .int .i64 v2, .bool r'2, .bool k'2, .bool l2] 25 (0, 0)) ∧ (∃ y1 y2 y3 y4 y5 : Value, u.heap[w.heap.size]? = some (.cells #[y1, y2, y3, y4, y5] 25 (0, 0))) ∧ ∃ y1 y2 y3 y4 y5 : Value, u.heap[w.heap.size + 1]? = some (.cells #[y1, y2, y3, y4, y5] 25 (0, 0))) ∧ (b[0]? = some true → t17 = .agg #[.int .i64 q2, .int .i64 v2, .bool r'2, .bool k'2, .bool l2]) ∧ (b[1]? = some true → t18 = .pointer (some ⟨x, 0, none⟩)) ∧ (b[2]? = some true → ∃ m : Int, t19 = .int .i64 m) ∧ (b[3]? = some true → ∃ c : Bool, t20 = .bool c) ∧ (b[4]? = some true → t21 = .pointer (some ⟨x, 0, none⟩)) ∧ (b[5]? = some true → ∃ m : Int, t22 = .int .i64 m) ∧ (b[6]? = some true → ∃ c : Bool, t23 = .bool c) ∧ (b[7]? = some true → t24 = .pointer (some ⟨x, 0, none⟩)) ∧ (b[8]? = some true → ∃ m : Int, t25 = .int .i64 m) ∧ (b[9]? = some true → ∃ c : Bool, t26 = .bool c) ∧ (b[10]? = some true → ∃ (s1 s2 : Int) (s3 s4 s5 : Bool), t27 = .agg #[.int .i64 s1, .int .i64 s2, .bool s3, .bool s4, .bool s5]) ∧ (b[11]? = some true → t28 = .agg #[.int .i64 q2, .int .i64 v2, .bool r'2, .bool k'2, .bool l2]) ∧ (b[12]? = some true → ∃ (s1 s2 : Int) (s3 s4 s5 : Bool), u.heap[w.heap.size]? = some (.cells #[.int .i64 s1, .int .i64 s2, .bool s3, .bool s4, .bool s5] 25 (0, 0))) ∧ (b[13]? = some true → u.heap[w.heap.size + 1]? = some (.cells #[.int .i64 q2, .int .i64 v2, .bool r'2, .bool k'2, .bool l2] 25 (0, 0)))) ?h0_3 ⟨?o3_0, ?o3_1, ?o3_2, ?o3_3, ?o3_4, ?o3_5, ?o3_6, ?o3_7, ?o3_8, ?o3_9, ?o3_10, ?o3_11, ?o3_12, ?o3_13, trivial⟩ ?hend_3
    case h0_3 => exact ⟨undef, undef, undef, undef, undef, undef, undef, undef, undef, undef, undef, undef, rfl, ⟨t3.drew, .inr (RdC.start r3.drew), hB, ⟨_, _, _, _, _, hC⟩, _, _, _, _, _, hD⟩, by simp, by simp, by simp, by simp, by simp, by simp, by simp, by simp, by simp, by simp, by simp, by simp, by simp, by simp⟩
    case o3_0 =>
      rintro b ac u hbl hbi hcl he ⟨t17, t18, t19, t20, t21, t22, t23, t24, t25, t26, t27, t28, rfl, hk, g0, g1, g2, g3, g4, g5, g6, g7, g8, g9, g10, g11, g12, g13⟩ K hK
      clear he
      obtain ⟨hk1, hk2, hB, ⟨y1, y2, y3, y4, y5, hC⟩, z1, z2, z3, z4, z5, hD⟩ := hk
      obtain ⟨_, _⟩ := own_cells hB
      obtain ⟨_, _⟩ := own_cells hC
      obtain ⟨_, _⟩ := own_cells hD
      go_simp
      have hR := Below.refl u.heap.size u
      have hS := Kept.refl x u
      exact hK _ _ ⟨_, _, _, _, _, _, _, _, _, _, _, _, rfl, ⟨hk1, hk2.imp set_true (fun h => h.other (by decide) hR), hB, ⟨y1, y2, y3, y4, y5, hC⟩, z1, z2, z3, z4, z5, hD⟩, fun _ => rfl, fun h => g1 (by simpa using h), fun h => g2 (by simpa using h), fun h => g3 (by simpa using h), fun h => g4 (by simpa using h), fun h => g5 (by simpa using h), fun h => g6 (by simpa using h), fun h => g7 (by simpa using h), fun h => g8 (by simpa using h), fun h => g9 (by simpa using h), fun h => g10 (by simpa using h), fun h => g11 (by simpa using h), fun h => (fun g => (by obtain ⟨s1, s2, s3, s4, s5, h⟩ := g; exact ⟨s1, s2, s3, s4, s5, own_kept hS (by omega) h⟩)) (g12 (by simpa using h)), fun h => (fun g => own_kept hS (by omega) g) (g13 (by simpa using h))⟩
    case o3_1 =>
      rintro b ac u hbl hbi hcl he ⟨t17, t18, t19, t20, t21, t22, t23, t24, t25, t26, t27, t28, rfl, hk, g0, g1, g2, g3, g4, g5, g6, g7, g8, g9, g10, g11, g12, g13⟩ K hK
      clear he
      obtain ⟨hk1, hk2, hB, ⟨y1, y2, y3, y4, y5, hC⟩, z1, z2, z3, z4, z5, hD⟩ := hk
      go_simp
      have hR := Below.refl u.heap.size u
      have hS := Kept.refl x u
      exact hK _ _ ⟨_, _, _, _, _, _, _, _, _, _, _, _, rfl, ⟨hk1, hk2.imp set_true (fun h => h.other (by decide) hR), hB, ⟨y1, y2, y3, y4, y5, hC⟩, z1, z2, z3, z4, z5, hD⟩, fun h => g0 (by simpa using h), fun _ => rfl, fun h => g2 (by simpa using h), fun h => g3 (by simpa using h), fun h => g4 (by simpa using h), fun h => g5 (by simpa using h), fun h => g6 (by simpa using h), fun h => g7 (by simpa using h), fun h => g8 (by simpa using h), fun h => g9 (by simpa using h), fun h => g10 (by simpa using h), fun h => g11 (by simpa using h), fun h => (fun g => (by obtain ⟨s1, s2, s3, s4, s5, h⟩ := g; exact ⟨s1, s2, s3, s4, s5, own_kept hS (by omega) h⟩)) (g12 (by simpa using h)), fun h => (fun g => own_kept hS (by omega) g) (g13 (by simpa using h))⟩
    case o3_2 =>
      rintro b ac u hbl hbi hcl he ⟨t17, t18, t19, t20, t21, t22, t23, t24, t25, t26, t27, t28, rfl, hk, g0, g1, g2, g3, g4, g5, g6, g7, g8, g9, g10, g11, g12, g13⟩ K hK
      have p1 : b[1]? = some true := by simp [Region.binds] at he; simp [he]
      obtain rfl := g1 p1
      clear he
      obtain ⟨hk1, hk2, hB, ⟨y1, y2, y3, y4, y5, hC⟩, z1, z2, z3, z4, z5, hD⟩ := hk
      have hk3 := hk2.resolve_left (fun h => (by have hn := hcl 12 _ rfl h; simp [Region.binds, hbi] at hn))
      obtain ⟨q, hq1, hq2, hr⟩ := hk3
      have hcn := Cnt_le b [2, 5, 8]
      simp only [List.length_cons, List.length_nil] at hcn
      go_simp
      refine (pick_any _ _ _ _ hr (by omega) (by omega)).mono ?_
      rintro e u' ⟨m, rfl, hm0, hm1, _, hr', hS⟩
      go_simp
      exact hK _ _ ⟨_, _, _, _, _, _, _, _, _, _, _, _, rfl, ⟨hk1.trans hS, .inr (RdC.run hbi (by decide) (by decide) hq1 hq2 hr'), own_kept hS (by omega) hB, ⟨y1, y2, y3, y4, y5, own_kept hS (by omega) hC⟩, z1, z2, z3, z4, z5, own_kept hS (by omega) hD⟩, fun h => g0 (by simpa using h), fun h => g1 (by simpa using h), fun _ => ⟨m, rfl⟩, fun h => g3 (by simpa using h), fun h => g4 (by simpa using h), fun h => g5 (by simpa using h), fun h => g6 (by simpa using h), fun h => g7 (by simpa using h), fun h => g8 (by simpa using h), fun h => g9 (by simpa using h), fun h => g10 (by simpa using h), fun h => g11 (by simpa using h), fun h => (fun g => (by obtain ⟨s1, s2, s3, s4, s5, h⟩ := g; exact ⟨s1, s2, s3, s4, s5, own_kept hS (by omega) h⟩)) (g12 (by simpa using h)), fun h => (fun g => own_kept hS (by omega) g) (g13 (by simpa using h))⟩
    case o3_3 =>
      rintro b ac u hbl hbi hcl he ⟨t17, t18, t19, t20, t21, t22, t23, t24, t25, t26, t27, t28, rfl, hk, g0, g1, g2, g3, g4, g5, g6, g7, g8, g9, g10, g11, g12, g13⟩ K hK
      have p2 : b[2]? = some true := by simp [Region.binds] at he; simp [he]
      obtain ⟨m19, rfl⟩ := g2 p2
      clear he
      obtain ⟨hk1, hk2, hB, ⟨y1, y2, y3, y4, y5, hC⟩, z1, z2, z3, z4, z5, hD⟩ := hk
      go_simp
      have hR := Below.refl u.heap.size u
      have hS := Kept.refl x u
      exact hK _ _ ⟨_, _, _, _, _, _, _, _, _, _, _, _, rfl, ⟨hk1, hk2.imp set_true (fun h => h.other (by decide) hR), hB, ⟨y1, y2, y3, y4, y5, hC⟩, z1, z2, z3, z4, z5, hD⟩, fun h => g0 (by simpa using h), fun h => g1 (by simpa using h), fun h => g2 (by simpa using h), fun _ => ⟨_, rfl⟩, fun h => g4 (by simpa using h), fun h => g5 (by simpa using h), fun h => g6 (by simpa using h), fun h => g7 (by simpa using h), fun h => g8 (by simpa using h), fun h => g9 (by simpa using h), fun h => g10 (by simpa using h), fun h => g11 (by simpa using h), fun h => (fun g => (by obtain ⟨s1, s2, s3, s4, s5, h⟩ := g; exact ⟨s1, s2, s3, s4, s5, own_kept hS (by omega) h⟩)) (g12 (by simpa using h)), fun h => (fun g => own_kept hS (by omega) g) (g13 (by simpa using h))⟩
    case o3_4 =>
      rintro b ac u hbl hbi hcl he ⟨t17, t18, t19, t20, t21, t22, t23, t24, t25, t26, t27, t28, rfl, hk, g0, g1, g2, g3, g4, g5, g6, g7, g8, g9, g10, g11, g12, g13⟩ K hK
      clear he
      obtain ⟨hk1, hk2, hB, ⟨y1, y2, y3, y4, y5, hC⟩, z1, z2, z3, z4, z5, hD⟩ := hk
      go_simp
      have hR := Below.refl u.heap.size u
      have hS := Kept.refl x u
      exact hK _ _ ⟨_, _, _, _, _, _, _, _, _, _, _, _, rfl, ⟨hk1, hk2.imp set_true (fun h => h.other (by decide) hR), hB, ⟨y1, y2, y3, y4, y5, hC⟩, z1, z2, z3, z4, z5, hD⟩, fun h => g0 (by simpa using h), fun h => g1 (by simpa using h), fun h => g2 (by simpa using h), fun h => g3 (by simpa using h), fun _ => rfl, fun h => g5 (by simpa using h), fun h => g6 (by simpa using h), fun h => g7 (by simpa using h), fun h => g8 (by simpa using h), fun h => g9 (by simpa using h), fun h => g10 (by simpa using h), fun h => g11 (by simpa using h), fun h => (fun g => (by obtain ⟨s1, s2, s3, s4, s5, h⟩ := g; exact ⟨s1, s2, s3, s4, s5, own_kept hS (by omega) h⟩)) (g12 (by simpa using h)), fun h => (fun g => own_kept hS (by omega) g) (g13 (by simpa using h))⟩
    case o3_5 =>
      rintro b ac u hbl hbi hcl he ⟨t17, t18, t19, t20, t21, t22, t23, t24, t25, t26, t27, t28, rfl, hk, g0, g1, g2, g3, g4, g5, g6, g7, g8, g9, g10, g11, g12, g13⟩ K hK
      have p4 : b[4]? = some true := by simp [Region.binds] at he; simp [he]
      obtain rfl := g4 p4
      clear he
      obtain ⟨hk1, hk2, hB, ⟨y1, y2, y3, y4, y5, hC⟩, z1, z2, z3, z4, z5, hD⟩ := hk
      have hk3 := hk2.resolve_left (fun h => (by have hn := hcl 12 _ rfl h; simp [Region.binds, hbi] at hn))
      obtain ⟨q, hq1, hq2, hr⟩ := hk3
      have hcn := Cnt_le b [2, 5, 8]
      simp only [List.length_cons, List.length_nil] at hcn
      go_simp
      refine (pick_any _ _ _ _ hr (by omega) (by omega)).mono ?_
      rintro e u' ⟨m, rfl, hm0, hm1, _, hr', hS⟩
      go_simp
      exact hK _ _ ⟨_, _, _, _, _, _, _, _, _, _, _, _, rfl, ⟨hk1.trans hS, .inr (RdC.run hbi (by decide) (by decide) hq1 hq2 hr'), own_kept hS (by omega) hB, ⟨y1, y2, y3, y4, y5, own_kept hS (by omega) hC⟩, z1, z2, z3, z4, z5, own_kept hS (by omega) hD⟩, fun h => g0 (by simpa using h), fun h => g1 (by simpa using h), fun h => g2 (by simpa using h), fun h => g3 (by simpa using h), fun h => g4 (by simpa using h), fun _ => ⟨m, rfl⟩, fun h => g6 (by simpa using h), fun h => g7 (by simpa using h), fun h => g8 (by simpa using h), fun h => g9 (by simpa using h), fun h => g10 (by simpa using h), fun h => g11 (by simpa using h), fun h => (fun g => (by obtain ⟨s1, s2, s3, s4, s5, h⟩ := g; exact ⟨s1, s2, s3, s4, s5, own_kept hS (by omega) h⟩)) (g12 (by simpa using h)), fun h => (fun g => own_kept hS (by omega) g) (g13 (by simpa using h))⟩
    case o3_6 =>
      rintro b ac u hbl hbi hcl he ⟨t17, t18, t19, t20, t21, t22, t23, t24, t25, t26, t27, t28, rfl, hk, g0, g1, g2, g3, g4, g5, g6, g7, g8, g9, g10, g11, g12, g13⟩ K hK
      have p5 : b[5]? = some true := by simp [Region.binds] at he; simp [he]
      obtain ⟨m22, rfl⟩ := g5 p5
      clear he
      obtain ⟨hk1, hk2, hB, ⟨y1, y2, y3, y4, y5, hC⟩, z1, z2, z3, z4, z5, hD⟩ := hk
      go_simp
      have hR := Below.refl u.heap.size u
      have hS := Kept.refl x u
      exact hK _ _ ⟨_, _, _, _, _, _, _, _, _, _, _, _, rfl, ⟨hk1, hk2.imp set_true (fun h => h.other (by decide) hR), hB, ⟨y1, y2, y3, y4, y5, hC⟩, z1, z2, z3, z4, z5, hD⟩, fun h => g0 (by simpa using h), fun h => g1 (by simpa using h), fun h => g2 (by simpa using h), fun h => g3 (by simpa using h), fun h => g4 (by simpa using h), fun h => g5 (by simpa using h), fun _ => ⟨_, rfl⟩, fun h => g7 (by simpa using h), fun h => g8 (by simpa using h), fun h => g9 (by simpa using h), fun h => g10 (by simpa using h), fun h => g11 (by simpa using h), fun h => (fun g => (by obtain ⟨s1, s2, s3, s4, s5, h⟩ := g; exact ⟨s1, s2, s3, s4, s5, own_kept hS (by omega) h⟩)) (g12 (by simpa using h)), fun h => (fun g => own_kept hS (by omega) g) (g13 (by simpa using h))⟩
    case o3_7 =>
      rintro b ac u hbl hbi hcl he ⟨t17, t18, t19, t20, t21, t22, t23, t24, t25, t26, t27, t28, rfl, hk, g0, g1, g2, g3, g4, g5, g6, g7, g8, g9, g10, g11, g12, g13⟩ K hK
      clear he
      obtain ⟨hk1, hk2, hB, ⟨y1, y2, y3, y4, y5, hC⟩, z1, z2, z3, z4, z5, hD⟩ := hk
      go_simp
      have hR := Below.refl u.heap.size u
      have hS := Kept.refl x u
      exact hK _ _ ⟨_, _, _, _, _, _, _, _, _, _, _, _, rfl, ⟨hk1, hk2.imp set_true (fun h => h.other (by decide) hR), hB, ⟨y1, y2, y3, y4, y5, hC⟩, z1, z2, z3, z4, z5, hD⟩, fun h => g0 (by simpa using h), fun h => g1 (by simpa using h), fun h => g2 (by simpa using h), fun h => g3 (by simpa using h), fun h => g4 (by simpa using h), fun h => g5 (by simpa using h), fun h => g6 (by simpa using h), fun _ => rfl, fun h => g8 (by simpa using h), fun h => g9 (by simpa using h), fun h => g10 (by simpa using h), fun h => g11 (by simpa using h), fun h => (fun g => (by obtain ⟨s1, s2, s3, s4, s5, h⟩ := g; exact ⟨s1, s2, s3, s4, s5, own_kept hS (by omega) h⟩)) (g12 (by simpa using h)), fun h => (fun g => own_kept hS (by omega) g) (g13 (by simpa using h))⟩
    case o3_8 =>
      rintro b ac u hbl hbi hcl he ⟨t17, t18, t19, t20, t21, t22, t23, t24, t25, t26, t27, t28, rfl, hk, g0, g1, g2, g3, g4, g5, g6, g7, g8, g9, g10, g11, g12, g13⟩ K hK
      have p7 : b[7]? = some true := by simp [Region.binds] at he; simp [he]
      obtain rfl := g7 p7
      clear he
      obtain ⟨hk1, hk2, hB, ⟨y1, y2, y3, y4, y5, hC⟩, z1, z2, z3, z4, z5, hD⟩ := hk
      have hk3 := hk2.resolve_left (fun h => (by have hn := hcl 12 _ rfl h; simp [Region.binds, hbi] at hn))
      obtain ⟨q, hq1, hq2, hr⟩ := hk3
      have hcn := Cnt_le b [2, 5, 8]
      simp only [List.length_cons, List.length_nil] at hcn
      go_simp
      refine (pick_any _ _ _ _ hr (by omega) (by omega)).mono ?_
      rintro e u' ⟨m, rfl, hm0, hm1, _, hr', hS⟩
      go_simp
      exact hK _ _ ⟨_, _, _, _, _, _, _, _, _, _, _, _, rfl, ⟨hk1.trans hS, .inr (RdC.run hbi (by decide) (by decide) hq1 hq2 hr'), own_kept hS (by omega) hB, ⟨y1, y2, y3, y4, y5, own_kept hS (by omega) hC⟩, z1, z2, z3, z4, z5, own_kept hS (by omega) hD⟩, fun h => g0 (by simpa using h), fun h => g1 (by simpa using h), fun h => g2 (by simpa using h), fun h => g3 (by simpa using h), fun h => g4 (by simpa using h), fun h => g5 (by simpa using h), fun h => g6 (by simpa using h), fun h => g7 (by simpa using h), fun _ => ⟨m, rfl⟩, fun h => g9 (by simpa using h), fun h => g10 (by simpa using h), fun h => g11 (by simpa using h), fun h => (fun g => (by obtain ⟨s1, s2, s3, s4, s5, h⟩ := g; exact ⟨s1, s2, s3, s4, s5, own_kept hS (by omega) h⟩)) (g12 (by simpa using h)), fun h => (fun g => own_kept hS (by omega) g) (g13 (by simpa using h))⟩
    case o3_9 =>
      rintro b ac u hbl hbi hcl he ⟨t17, t18, t19, t20, t21, t22, t23, t24, t25, t26, t27, t28, rfl, hk, g0, g1, g2, g3, g4, g5, g6, g7, g8, g9, g10, g11, g12, g13⟩ K hK
      have p8 : b[8]? = some true := by simp [Region.binds] at he; simp [he]
      obtain ⟨m25, rfl⟩ := g8 p8
      clear he
      obtain ⟨hk1, hk2, hB, ⟨y1, y2, y3, y4, y5, hC⟩, z1, z2, z3, z4, z5, hD⟩ := hk
      go_simp
      have hR := Below.refl u.heap.size u
      have hS := Kept.refl x u
      exact hK _ _ ⟨_, _, _, _, _, _, _, _, _, _, _, _, rfl, ⟨hk1, hk2.imp set_true (fun h => h.other (by decide) hR), hB, ⟨y1, y2, y3, y4, y5, hC⟩, z1, z2, z3, z4, z5, hD⟩, fun h => g0 (by simpa using h), fun h => g1 (by simpa using h), fun h => g2 (by simpa using h), fun h => g3 (by simpa using h), fun h => g4 (by simpa using h), fun h => g5 (by simpa using h), fun h => g6 (by simpa using h), fun h => g7 (by simpa using h), fun h => g8 (by simpa using h), fun _ => ⟨_, rfl⟩, fun h => g10 (by simpa using h), fun h => g11 (by simpa using h), fun h => (fun g => (by obtain ⟨s1, s2, s3, s4, s5, h⟩ := g; exact ⟨s1, s2, s3, s4, s5, own_kept hS (by omega) h⟩)) (g12 (by simpa using h)), fun h => (fun g => own_kept hS (by omega) g) (g13 (by simpa using h))⟩
    case o3_10 =>
      rintro b ac u hbl hbi hcl he ⟨t17, t18, t19, t20, t21, t22, t23, t24, t25, t26, t27, t28, rfl, hk, g0, g1, g2, g3, g4, g5, g6, g7, g8, g9, g10, g11, g12, g13⟩ K hK
      have p0 : b[0]? = some true := by simp [Region.binds] at he; simp [he]
      have p3 : b[3]? = some true := by simp [Region.binds] at he; simp [he]
      have p6 : b[6]? = some true := by simp [Region.binds] at he; simp [he]
      have p9 : b[9]? = some true := by simp [Region.binds] at he; simp [he]
      obtain rfl := g0 p0
      obtain ⟨c20, rfl⟩ := g3 p3
      obtain ⟨c23, rfl⟩ := g6 p6
      obtain ⟨c26, rfl⟩ := g9 p9
      clear he
      obtain ⟨hk1, hk2, hB, ⟨y1, y2, y3, y4, y5, hC⟩, z1, z2, z3, z4, z5, hD⟩ := hk
      go_simp
      refine (srightLess_any _ _ _ _ _ _ _ _ _).mono ?_
      rintro e u' ⟨rfl, hR⟩
      have hS := (Kept.refl x u).of_below hR
      go_simp
      exact hK _ _ ⟨_, _, _, _, _, _, _, _, _, _, _, _, rfl, ⟨hk1.of_below hR, hk2.imp set_true (fun h => h.other (by decide) hR), own_below hR hB, ⟨y1, y2, y3, y4, y5, own_below hR hC⟩, z1, z2, z3, z4, z5, own_below hR hD⟩, fun h => g0 (by simpa using h), fun h => g1 (by simpa using h), fun h => g2 (by simpa using h), fun h => g3 (by simpa using h), fun h => g4 (by simpa using h), fun h => g5 (by simpa using h), fun h => g6 (by simpa using h), fun h => g7 (by simpa using h), fun h => g8 (by simpa using h), fun h => g9 (by simpa using h), fun _ => ⟨_, _, _, _, _, rfl⟩, fun h => g11 (by simpa using h), fun h => (fun g => (by obtain ⟨s1, s2, s3, s4, s5, h⟩ := g; exact ⟨s1, s2, s3, s4, s5, own_kept hS (by omega) h⟩)) (g12 (by simpa using h)), fun h => (fun g => own_kept hS (by omega) g) (g13 (by simpa using h))⟩
    case o3_11 =>
      rintro b ac u hbl hbi hcl he ⟨t17, t18, t19, t20, t21, t22, t23, t24, t25, t26, t27, t28, rfl, hk, g0, g1, g2, g3, g4, g5, g6, g7, g8, g9, g10, g11, g12, g13⟩ K hK
      clear he
      obtain ⟨hk1, hk2, hB, ⟨y1, y2, y3, y4, y5, hC⟩, z1, z2, z3, z4, z5, hD⟩ := hk
      obtain ⟨_, _⟩ := own_cells hB
      obtain ⟨_, _⟩ := own_cells hC
      obtain ⟨_, _⟩ := own_cells hD
      go_simp
      have hR := Below.refl u.heap.size u
      have hS := Kept.refl x u
      exact hK _ _ ⟨_, _, _, _, _, _, _, _, _, _, _, _, rfl, ⟨hk1, hk2.imp set_true (fun h => h.other (by decide) hR), hB, ⟨y1, y2, y3, y4, y5, hC⟩, z1, z2, z3, z4, z5, hD⟩, fun h => g0 (by simpa using h), fun h => g1 (by simpa using h), fun h => g2 (by simpa using h), fun h => g3 (by simpa using h), fun h => g4 (by simpa using h), fun h => g5 (by simpa using h), fun h => g6 (by simpa using h), fun h => g7 (by simpa using h), fun h => g8 (by simpa using h), fun h => g9 (by simpa using h), fun h => g10 (by simpa using h), fun _ => rfl, fun h => (fun g => (by obtain ⟨s1, s2, s3, s4, s5, h⟩ := g; exact ⟨s1, s2, s3, s4, s5, own_kept hS (by omega) h⟩)) (g12 (by simpa using h)), fun h => (fun g => own_kept hS (by omega) g) (g13 (by simpa using h))⟩
    case o3_12 =>
      rintro b ac u hbl hbi hcl he ⟨t17, t18, t19, t20, t21, t22, t23, t24, t25, t26, t27, t28, rfl, hk, g0, g1, g2, g3, g4, g5, g6, g7, g8, g9, g10, g11, g12, g13⟩ K hK
      have p10 : b[10]? = some true := by simp [Region.binds] at he; simp [he]
      obtain ⟨s1, s2, s3, s4, s5, rfl⟩ := g10 p10
      clear he
      obtain ⟨hk1, hk2, hB, ⟨y1, y2, y3, y4, y5, hC⟩, z1, z2, z3, z4, z5, hD⟩ := hk
      obtain ⟨_, _⟩ := own_cells hB
      obtain ⟨_, _⟩ := own_cells hC
      obtain ⟨_, _⟩ := own_cells hD
      go_simp
      have hS : Kept x u u := Kept.refl x u
      exact hK _ _ ⟨_, _, _, _, _, _, _, _, _, _, _, _, rfl, ⟨(((((hk1).setCell_new (p := ⟨w.heap.size, 0, none⟩) (show w.heap.size ≤ w.heap.size by omega) _).setCell_new (p := ⟨w.heap.size, 1, none⟩) (show w.heap.size ≤ w.heap.size by omega) _).setCell_new (p := ⟨w.heap.size, 2, none⟩) (show w.heap.size ≤ w.heap.size by omega) _).setCell_new (p := ⟨w.heap.size, 3, none⟩) (show w.heap.size ≤ w.heap.size by omega) _).setCell_new (p := ⟨w.heap.size, 4, none⟩) (show w.heap.size ≤ w.heap.size by omega) _, .inl (by simp [hbl]), own_set_ne (own_set_ne (own_set_ne (own_set_ne (own_set_ne (hB) (p := ⟨w.heap.size, 0, none⟩) (show w.heap.size ≠ w2.heap.size by omega) _) (p := ⟨w.heap.size, 1, none⟩) (show w.heap.size ≠ w2.heap.size by omega) _) (p := ⟨w.heap.size, 2, none⟩) (show w.heap.size ≠ w2.heap.size by omega) _) (p := ⟨w.heap.size, 3, none⟩) (show w.heap.size ≠ w2.heap.size by omega) _) (p := ⟨w.heap.size, 4, none⟩) (show w.heap.size ≠ w2.heap.size by omega) _, ⟨_, _, _, _, _, own_set (own_set (own_set (own_set (own_set (hC) 0 _) 1 _) 2 _) 3 _) 4 _⟩, z1, z2, z3, z4, z5, own_set_ne (own_set_ne (own_set_ne (own_set_ne (own_set_ne (hD) (p := ⟨w.heap.size, 0, none⟩) (show w.heap.size ≠ w.heap.size + 1 by omega) _) (p := ⟨w.heap.size, 1, none⟩) (show w.heap.size ≠ w.heap.size + 1 by omega) _) (p := ⟨w.heap.size, 2, none⟩) (show w.heap.size ≠ w.heap.size + 1 by omega) _) (p := ⟨w.heap.size, 3, none⟩) (show w.heap.size ≠ w.heap.size + 1 by omega) _) (p := ⟨w.heap.size, 4, none⟩) (show w.heap.size ≠ w.heap.size + 1 by omega) _⟩, fun h => g0 (by simpa using h), fun h => g1 (by simpa using h), fun h => g2 (by simpa using h), fun h => g3 (by simpa using h), fun h => g4 (by simpa using h), fun h => g5 (by simpa using h), fun h => g6 (by simpa using h), fun h => g7 (by simpa using h), fun h => g8 (by simpa using h), fun h => g9 (by simpa using h), fun h => g10 (by simpa using h), fun h => g11 (by simpa using h), fun _ => ⟨s1, s2, s3, s4, s5, own_set (own_set (own_set (own_set (own_set (hC) 0 _) 1 _) 2 _) 3 _) 4 _⟩, fun h => (fun g => own_set_ne (own_set_ne (own_set_ne (own_set_ne (own_set_ne (g) (p := ⟨w.heap.size, 0, none⟩) (show w.heap.size ≠ w.heap.size + 1 by omega) _) (p := ⟨w.heap.size, 1, none⟩) (show w.heap.size ≠ w.heap.size + 1 by omega) _) (p := ⟨w.heap.size, 2, none⟩) (show w.heap.size ≠ w.heap.size + 1 by omega) _) (p := ⟨w.heap.size, 3, none⟩) (show w.heap.size ≠ w.heap.size + 1 by omega) _) (p := ⟨w.heap.size, 4, none⟩) (show w.heap.size ≠ w.heap.size + 1 by omega) _) (g13 (by simpa using h))⟩
    case o3_13 =>
      rintro b ac u hbl hbi hcl he ⟨t17, t18, t19, t20, t21, t22, t23, t24, t25, t26, t27, t28, rfl, hk, g0, g1, g2, g3, g4, g5, g6, g7, g8, g9, g10, g11, g12, g13⟩ K hK
      have p11 : b[11]? = some true := by simp [Region.binds] at he; simp [he]
      have p12 : b[12]? = some true := by simp [Region.binds] at he; simp [he]
      obtain rfl := g11 p11
      obtain ⟨s1, s2, s3, s4, s5, hE⟩ := g12 p12
      clear he
      obtain ⟨hk1, hk2, hB, ⟨y1, y2, y3, y4, y5, hC⟩, z1, z2, z3, z4, z5, hD⟩ := hk
      obtain ⟨_, _⟩ := own_cells hB
      obtain ⟨_, _⟩ := own_cells hC
      obtain ⟨_, _⟩ := own_cells hD
      go_simp
      have hS : Kept x u u := Kept.refl x u
      exact hK _ _ ⟨_, _, _, _, _, _, _, _, _, _, _, _, rfl, ⟨(((((hk1).setCell_new (p := ⟨w.heap.size + 1, 0, none⟩) (show w.heap.size ≤ w.heap.size + 1 by omega) _).setCell_new (p := ⟨w.heap.size + 1, 1, none⟩) (show w.heap.size ≤ w.heap.size + 1 by omega) _).setCell_new (p := ⟨w.heap.size + 1, 2, none⟩) (show w.heap.size ≤ w.heap.size + 1 by omega) _).setCell_new (p := ⟨w.heap.size + 1, 3, none⟩) (show w.heap.size ≤ w.heap.size + 1 by omega) _).setCell_new (p := ⟨w.heap.size + 1, 4, none⟩) (show w.heap.size ≤ w.heap.size + 1 by omega) _, .inl (set_true p12), own_set_ne (own_set_ne (own_set_ne (own_set_ne (own_set_ne (hB) (p := ⟨w.heap.size + 1, 0, none⟩) (show w.heap.size + 1 ≠ w2.heap.size by omega) _) (p := ⟨w.heap.size + 1, 1, none⟩) (show w.heap.size + 1 ≠ w2.heap.size by omega) _) (p := ⟨w.heap.size + 1, 2, none⟩) (show w.heap.size + 1 ≠ w2.heap.size by omega) _) (p := ⟨w.heap.size + 1, 3, none⟩) (show w.heap.size + 1 ≠ w2.heap.size by omega) _) (p := ⟨w.heap.size + 1, 4, none⟩) (show w.heap.size + 1 ≠ w2.heap.size by omega) _, ⟨y1, y2, y3, y4, y5, own_set_ne (own_set_ne (own_set_ne (own_set_ne (own_set_ne (hC) (p := ⟨w.heap.size + 1, 0, none⟩) (show w.heap.size + 1 ≠ w.heap.size by omega) _) (p := ⟨w.heap.size + 1, 1, none⟩) (show w.heap.size + 1 ≠ w.heap.size by omega) _) (p := ⟨w.heap.size + 1, 2, none⟩) (show w.heap.size + 1 ≠ w.heap.size by omega) _) (p := ⟨w.heap.size + 1, 3, none⟩) (show w.heap.size + 1 ≠ w.heap.size by omega) _) (p := ⟨w.heap.size + 1, 4, none⟩) (show w.heap.size + 1 ≠ w.heap.size by omega) _⟩, _, _, _, _, _, own_set (own_set (own_set (own_set (own_set (hD) 0 _) 1 _) 2 _) 3 _) 4 _⟩, fun h => g0 (by simpa using h), fun h => g1 (by simpa using h), fun h => g2 (by simpa using h), fun h => g3 (by simpa using h), fun h => g4 (by simpa using h), fun h => g5 (by simpa using h), fun h => g6 (by simpa using h), fun h => g7 (by simpa using h), fun h => g8 (by simpa using h), fun h => g9 (by simpa using h), fun h => g10 (by simpa using h), fun h => g11 (by simpa using h), fun h => (fun g => (by obtain ⟨s1, s2, s3, s4, s5, h⟩ := g; exact ⟨s1, s2, s3, s4, s5, own_set_ne (own_set_ne (own_set_ne (own_set_ne (own_set_ne (h) (p := ⟨w.heap.size + 1, 0, none⟩) (show w.heap.size + 1 ≠ w.heap.size by omega) _) (p := ⟨w.heap.size + 1, 1, none⟩) (show w.heap.size + 1 ≠ w.heap.size by omega) _) (p := ⟨w.heap.size + 1, 2, none⟩) (show w.heap.size + 1 ≠ w.heap.size by omega) _) (p := ⟨w.heap.size + 1, 3, none⟩) (show w.heap.size + 1 ≠ w.heap.size by omega) _) (p := ⟨w.heap.size + 1, 4, none⟩) (show w.heap.size + 1 ≠ w.heap.size by omega) _⟩)) (g12 (by simpa using h)), fun _ => own_set (own_set (own_set (own_set (own_set (hD) 0 _) 1 _) 2 _) 3 _) 4 _⟩
    rintro ac u ⟨t17, t18, t19, t20, t21, t22, t23, t24, t25, t26, t27, t28, rfl, hk, g0, g1, g2, g3, g4, g5, g6, g7, g8, g9, g10, g11, g12, g13⟩
    replace g0 := g0 (by simp)
    replace g1 := g1 (by simp)
    replace g2 := g2 (by simp)
    replace g3 := g3 (by simp)
    replace g4 := g4 (by simp)
    replace g5 := g5 (by simp)
    replace g6 := g6 (by simp)
    replace g7 := g7 (by simp)
    replace g8 := g8 (by simp)
    replace g9 := g9 (by simp)
    replace g10 := g10 (by simp)
    replace g11 := g11 (by simp)
    replace g12 := g12 (by simp)
    replace g13 := g13 (by simp)
    obtain rfl := g0
    obtain rfl := g1
    obtain ⟨m19, rfl⟩ := g2
    obtain ⟨c20, rfl⟩ := g3
    obtain rfl := g4
    obtain ⟨m22, rfl⟩ := g5
    obtain ⟨c23, rfl⟩ := g6
    obtain rfl := g7
    obtain ⟨m25, rfl⟩ := g8
    obtain ⟨c26, rfl⟩ := g9
    clear g10
    obtain rfl := g11
    obtain ⟨s1, s2, s3, s4, s5, hE⟩ := g12
    obtain ⟨hk1, _⟩ := hk
    obtain ⟨cE, _⟩ := own_cells hE
    obtain ⟨cF, _⟩ := own_cells g13
    go_wp2_with fail
    refine bodyPost_ret (v := .tuple #[.agg #[.int .i64 s1, .int .i64 s2, .bool s3, .bool s4, .bool s5], .agg #[.int .i64 q2, .int .i64 v2, .bool r'2, .bool k'2, .bool l2]]) ?_ rfl ?_
    · simp only [results, Try.results21]
      go_simp
    · exact ⟨_, _, _, _, _, _, _, _, _, _, rfl, Kept.below' (x := x) hk1 (by omega)⟩
end Go.Proofs.Ytccghhfiidodnaa
