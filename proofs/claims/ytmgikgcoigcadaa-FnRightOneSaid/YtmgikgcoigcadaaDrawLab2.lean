/- The draws of labels: contracts of DrawLabelJoin, DrawLabelMeet, DrawLabelFlow. No condition but that the code is a row of bytes. -/
import Derived.Test.YtmgikgcoigcadaaDrawLab
namespace Go.Proofs.Ytmgikgcoigcadaa
open Go.RowKit
set_option linter.unusedVariables false

theorem IsRow.len_le {k : IntKind} {w : World} {a : Option Addr} {len cap : Nat} {z : List Int} (h : IsRow k w a len cap z) : len ≤ 9223372036854775807 := by
  rcases h with ⟨_, rfl, _, _⟩ | ⟨_, _, h1, h2, _⟩
  · omega
  · unfold maxLen at h2; omega

/-- Two drawn labels. -/
def LabelsDrawn (w : World) (e : Ending) (w' : World) : Prop :=
  ∃ s1 v1 s2 v2 : Int, e = .returned (.tuple #[.agg #[.int .i64 s1, .int .i64 v1], .agg #[.int .i64 s2, .int .i64 v2]]) ∧ Below w.heap.size w w'
set_option maxHeartbeats 1000000 in
theorem drawLabelJoin_any (a : Option Addr) (len cap : Nat) (z : List Int) (w : World) (hr : IsRow .u8 w a len cap z) :
    Calls Try.prog 11 #[.slice a len cap] w (LabelsDrawn w) := by
  go_enter Try.func11, Try.ntmps11
  go_wp2_with fail
  refine (l6Open_any _ _ _ _ _ ((hr.alloc _).alloc _)).mono ?_
  rintro e w0 ⟨x, hx0, rfl, r0, b0⟩
  have z0 := b0.size
  try simp at z0
  have lx0 := r0.lt
  try simp at hx0
  have z0_0 : w.heap.size < w0.heap.size := by omega
  have y0_0 : ¬ w.heap.size = x := by omega
  have z0_1 : w.heap.size + 1 < w0.heap.size := by omega
  have y0_1 : ¬ w.heap.size + 1 = x := by omega
  have t0 : Kept x w w0 := by
    refine Kept.of_below ?_ b0
    · repeat (first | exact Kept.refl _ _ | refine Kept.alloc ?_ _)
  obtain ⟨c0, f0⟩ := bcell b0
  go_wp2_with fail
  refine (l71Label_any _ _ _ (by (repeat (first | with_reducible exact r0 | with_reducible apply Rd.setCell | with_reducible apply Rd.alloc | with_reducible apply Rd.drew)); (all_goals (first | omega | (simp <;> omega)))) (by omega) (by omega)).mono ?_
  rintro e w1 ⟨s1, v1, rfl, p1, lp1, up1, r1, k1⟩
  have z1 := k1.size
  try simp at z1
  have lx1 := r1.lt
  have z1_0 : w.heap.size < w1.heap.size := by omega
  have y1_0 : ¬ w.heap.size = x := by omega
  have z1_1 : w.heap.size + 1 < w1.heap.size := by omega
  have y1_1 : ¬ w.heap.size + 1 = x := by omega
  have t1 : Kept x w w1 := by
    refine Kept.trans ?_ k1
    · (repeat (first | with_reducible exact t0 | with_reducible refine Kept.setCell_new ?_ ?_ _ | with_reducible refine Kept.alloc ?_ _ | with_reducible refine Kept.drew ?_)); (all_goals (first | omega | (simp <;> omega)))
  obtain ⟨c1, f1⟩ := kcell k1
  clear k1
  go_wp2_with fail
  refine (l71Label_any _ _ _ (by (repeat (first | with_reducible exact r1 | with_reducible apply Rd.setCell | with_reducible apply Rd.alloc | with_reducible apply Rd.drew)); (all_goals (first | omega | (simp <;> omega)))) (by omega) (by omega)).mono ?_
  rintro e w2 ⟨s2, v2, rfl, p2, lp2, up2, r2, k2⟩
  have z2 := k2.size
  try simp at z2
  have lx2 := r2.lt
  have z2_0 : w.heap.size < w2.heap.size := by omega
  have y2_0 : ¬ w.heap.size = x := by omega
  have z2_1 : w.heap.size + 1 < w2.heap.size := by omega
  have y2_1 : ¬ w.heap.size + 1 = x := by omega
  have t2 : Kept x w w2 := by
    refine Kept.trans ?_ k2
    · (repeat (first | with_reducible exact t1 | with_reducible refine Kept.setCell_new ?_ ?_ _ | with_reducible refine Kept.alloc ?_ _ | with_reducible refine Kept.drew ?_)); (all_goals (first | omega | (simp <;> omega)))
  obtain ⟨c2, f2⟩ := kcell k2
  have o0 : w2.cell? ⟨w.heap.size, 0, none⟩ = some (.int .i64 0) := by go_simp
  have o1 : w2.cell? ⟨w.heap.size, 1, none⟩ = some (.int .i64 0) := by go_simp
  have o2 : w2.cell? ⟨w.heap.size + 1, 0, none⟩ = some (.int .i64 0) := by go_simp
  have o3 : w2.cell? ⟨w.heap.size + 1, 1, none⟩ = some (.int .i64 0) := by go_simp
  have q0 : w2.frozen? ⟨w.heap.size, 0, none⟩ = false := by go_simp
  have q1 : w2.frozen? ⟨w.heap.size, 1, none⟩ = false := by go_simp
  have q2 : w2.frozen? ⟨w.heap.size + 1, 0, none⟩ = false := by go_simp
  have q3 : w2.frozen? ⟨w.heap.size + 1, 1, none⟩ = false := by go_simp
  clear c0 f0 c1 f1 c2 f2
  go_wp2_with fail
  refine bodyPost_ret (v := .tuple #[.agg #[.int .i64 s1, .int .i64 v1], .agg #[.int .i64 s2, .int .i64 v2]]) (by simp only [results, Try.results11]; go_simp) rfl ⟨s1, v1, s2, v2, rfl, Kept.below' (x := x) ?_ (by omega)⟩
  (repeat (first | with_reducible exact t2 | with_reducible refine Kept.setCell_new ?_ ?_ _ | with_reducible refine Kept.alloc ?_ _ | with_reducible refine Kept.drew ?_)); (all_goals (first | omega | (simp <;> omega)))
set_option maxHeartbeats 2000000 in
theorem drawLabelFlow_any (a : Option Addr) (len cap : Nat) (z : List Int) (w : World) (hr : IsRow .u8 w a len cap z) :
    Calls Try.prog 16 #[.slice a len cap] w (LabelsDrawn w) := by
  go_enter Try.func16, Try.ntmps16
  go_wp2_with fail
  refine (l6Open_any _ _ _ _ _ ((hr.alloc _).alloc _)).mono ?_
  rintro e w0 ⟨x, hx0, rfl, r0, b0⟩
  have z0 := b0.size
  try simp at z0
  have lx0 := r0.lt
  try simp at hx0
  have z0_0 : w.heap.size < w0.heap.size := by omega
  have y0_0 : ¬ w.heap.size = x := by omega
  have z0_1 : w.heap.size + 1 < w0.heap.size := by omega
  have y0_1 : ¬ w.heap.size + 1 = x := by omega
  have t0 : Kept x w w0 := by
    refine Kept.of_below ?_ b0
    · repeat (first | exact Kept.refl _ _ | refine Kept.alloc ?_ _)
  obtain ⟨c0, f0⟩ := bcell b0
  go_wp2_with fail
  refine (l71Label_any _ _ _ (by (repeat (first | with_reducible exact r0 | with_reducible apply Rd.setCell | with_reducible apply Rd.alloc | with_reducible apply Rd.drew)); (all_goals (first | omega | (simp <;> omega)))) (by omega) (by omega)).mono ?_
  rintro e w1 ⟨s1, v1, rfl, p1, lp1, up1, r1, k1⟩
  have z1 := k1.size
  try simp at z1
  have lx1 := r1.lt
  have z1_0 : w.heap.size < w1.heap.size := by omega
  have y1_0 : ¬ w.heap.size = x := by omega
  have z1_1 : w.heap.size + 1 < w1.heap.size := by omega
  have y1_1 : ¬ w.heap.size + 1 = x := by omega
  have t1 : Kept x w w1 := by
    refine Kept.trans ?_ k1
    · (repeat (first | with_reducible exact t0 | with_reducible refine Kept.setCell_new ?_ ?_ _ | with_reducible refine Kept.alloc ?_ _ | with_reducible refine Kept.drew ?_)); (all_goals (first | omega | (simp <;> omega)))
  obtain ⟨c1, f1⟩ := kcell k1
  go_wp2_with fail
  refine (l71Label_any _ _ _ (by (repeat (first | with_reducible exact r1 | with_reducible apply Rd.setCell | with_reducible apply Rd.alloc | with_reducible apply Rd.drew)); (all_goals (first | omega | (simp <;> omega)))) (by omega) (by omega)).mono ?_
  rintro e w2 ⟨s2, v2, rfl, p2, lp2, up2, r2, k2⟩
  have z2 := k2.size
  try simp at z2
  have lx2 := r2.lt
  have z2_0 : w.heap.size < w2.heap.size := by omega
  have y2_0 : ¬ w.heap.size = x := by omega
  have z2_1 : w.heap.size + 1 < w2.heap.size := by omega
  have y2_1 : ¬ w.heap.size + 1 = x := by omega
  have z2_2 : w1.heap.size < w2.heap.size := by omega
  have y2_2 : ¬ w1.heap.size = x := by omega
  have t2 : Kept x w w2 := by
    refine Kept.trans ?_ k2
    · (repeat (first | with_reducible exact t1 | with_reducible refine Kept.setCell_new ?_ ?_ _ | with_reducible refine Kept.alloc ?_ _ | with_reducible refine Kept.drew ?_)); (all_goals (first | omega | (simp <;> omega)))
  obtain ⟨c2, f2⟩ := kcell k2
  go_wp2_with fail
  refine (pick_any _ _ _ _ (by (repeat (first | with_reducible exact r2 | with_reducible apply Rd.setCell | with_reducible apply Rd.alloc | with_reducible apply Rd.drew)); (all_goals (first | omega | (simp <;> omega)))) (by omega) (by omega)).mono ?_
  rintro e w3 ⟨m3, rfl, lo3, hi3, _, r3, k3⟩
  replace hi3 := hi3 (by omega)
  have z3 := k3.size
  try simp at z3
  have lx3 := r3.lt
  have z3_0 : w.heap.size < w3.heap.size := by omega
  have y3_0 : ¬ w.heap.size = x := by omega
  have z3_1 : w.heap.size + 1 < w3.heap.size := by omega
  have y3_1 : ¬ w.heap.size + 1 = x := by omega
  have z3_2 : w1.heap.size < w3.heap.size := by omega
  have y3_2 : ¬ w1.heap.size = x := by omega
  have z3_3 : w2.heap.size < w3.heap.size := by omega
  have y3_3 : ¬ w2.heap.size = x := by omega
  have t3 : Kept x w w3 := by
    refine Kept.trans ?_ k3
    · (repeat (first | with_reducible exact t2 | with_reducible refine Kept.setCell_new ?_ ?_ _ | with_reducible refine Kept.alloc ?_ _ | with_reducible refine Kept.drew ?_)); (all_goals (first | omega | (simp <;> omega)))
  obtain ⟨c3, f3⟩ := kcell k3
  have hA : w3.heap[w1.heap.size]? = some (.cells #[.int .i64 s1, .int .i64 v1] 23 (0, 0)) := own_kept k3 (by omega) (own_alloc (own_kept k2 (by omega) (own_new w1 _)) _)
  have hB : w3.heap[w2.heap.size]? = some (.cells #[.int .i64 s2, .int .i64 v2] 23 (0, 0)) := own_kept k3 (by omega) (own_new w2 _)
  have hC : w3.heap[w.heap.size]? = some (.cells #[.int .i64 0, .int .i64 0] 23 (0, 0)) :=
    own_kept k3 (by omega) (own_alloc (own_kept k2 (by omega) (own_alloc (own_kept k1 (by omega) (own_below b0 (own_alloc (own_new w _) _))) _)) _)
  have hD : w3.heap[w.heap.size + 1]? = some (.cells #[.int .i64 0, .int .i64 0] 23 (0, 0)) :=
    own_kept k3 (by omega) (own_alloc (own_kept k2 (by omega) (own_alloc (own_kept k1 (by omega) (own_below b0 (by simpa using own_new (w.alloc _) _))) _)) _)
  clear c0 f0 c1 f1 c2 f2 c3 f3 k3
  cases hm : (m3 == 0)
  · go_wp2_with fail
    refine wp_region_each (by kernel_rfl) (by kernel_rfl) (by kernel_rfl) (fun b ac u => ∃ t20 t21 : Value, ac = ⟨#[.slice a len cap, undef, .pointer (some ⟨w.heap.size, 0, none⟩), .pointer (some ⟨w.heap.size + 1, 0, none⟩), .pointer (some ⟨x, 0, none⟩), .pointer (some ⟨w1.heap.size, 0, none⟩), .pointer (some ⟨w2.heap.size, 0, none⟩), .slice a len cap, .pointer (some ⟨x, 0, none⟩), .pointer (some ⟨x, 0, none⟩), .agg #[.int .i64 s1, .int .i64 v1], .pointer (some ⟨x, 0, none⟩), .agg #[.int .i64 s2, .int .i64 v2], .pointer (some ⟨x, 0, none⟩), .int .i64 m3, .bool false, undef, undef, undef, undef, t20, t21], []⟩ ∧ (Kept x w u ∧ u.heap[w1.heap.size]? = some (.cells #[.int .i64 s1, .int .i64 v1] 23 (0, 0)) ∧ u.heap[w2.heap.size]? = some (.cells #[.int .i64 s2, .int .i64 v2] 23 (0, 0)) ∧ (∃ y1 y2 : Value, u.heap[w.heap.size]? = some (.cells #[y1, y2] 23 (0, 0))) ∧ ∃ y1 y2 : Value, u.heap[w.heap.size + 1]? = some (.cells #[y1, y2] 23 (0, 0))) ∧ (b[0]? = some true → t20 = .agg #[.int .i64 s1, .int .i64 v1]) ∧ (b[1]? = some true → t21 = .agg #[.int .i64 s2, .int .i64 v2]) ∧ (b[2]? = some true → u.heap[w.heap.size]? = some (.cells #[.int .i64 s1, .int .i64 v1] 23 (0, 0))) ∧ (b[3]? = some true → u.heap[w.heap.size + 1]? = some (.cells #[.int .i64 s2, .int .i64 v2] 23 (0, 0)))) ?h0_1 ⟨?o1_0, ?o1_1, ?o1_2, ?o1_3, trivial⟩ ?hend_1
    case h0_1 => exact ⟨undef, undef, rfl, ⟨t3.drew, hA, hB, ⟨_, _, hC⟩, _, _, hD⟩, by simp, by simp, by simp, by simp⟩
    case o1_0 =>
      rintro b ac u hbl hbi hcl he ⟨t20, t21, rfl, hk, g0, g1, g2, g3⟩ K hK
      clear he
      obtain ⟨hk1, hA, hB, ⟨y1, y2, hC⟩, y3, y4, hD⟩ := hk
      obtain ⟨ca, _⟩ := own_cells hA
      obtain ⟨cb, _⟩ := own_cells hB
      obtain ⟨cc, fc⟩ := own_cells hC
      obtain ⟨cd, fd⟩ := own_cells hD
      go_simp
      have hR := Below.refl u.heap.size u
      exact hK _ _ ⟨_, _, rfl, ⟨hk1, hA, hB, ⟨y1, y2, hC⟩, y3, y4, hD⟩, fun _ => rfl, fun h => g1 (by simpa using h), fun h => (fun g => own_below hR g) (g2 (by simpa using h)), fun h => (fun g => own_below hR g) (g3 (by simpa using h))⟩
    case o1_1 =>
      rintro b ac u hbl hbi hcl he ⟨t20, t21, rfl, hk, g0, g1, g2, g3⟩ K hK
      clear he
      obtain ⟨hk1, hA, hB, ⟨y1, y2, hC⟩, y3, y4, hD⟩ := hk
      obtain ⟨ca, _⟩ := own_cells hA
      obtain ⟨cb, _⟩ := own_cells hB
      obtain ⟨cc, fc⟩ := own_cells hC
      obtain ⟨cd, fd⟩ := own_cells hD
      go_simp
      have hR := Below.refl u.heap.size u
      exact hK _ _ ⟨_, _, rfl, ⟨hk1, hA, hB, ⟨y1, y2, hC⟩, y3, y4, hD⟩, fun h => g0 (by simpa using h), fun _ => rfl, fun h => (fun g => own_below hR g) (g2 (by simpa using h)), fun h => (fun g => own_below hR g) (g3 (by simpa using h))⟩
    case o1_2 =>
      rintro b ac u hbl hbi hcl he ⟨t20, t21, rfl, hk, g0, g1, g2, g3⟩ K hK
      have p0 : b[0]? = some true := by simp [Region.binds] at he; simp [he]
      obtain rfl := g0 p0
      clear he
      obtain ⟨hk1, hA, hB, ⟨y1, y2, hC⟩, y3, y4, hD⟩ := hk
      obtain ⟨ca, _⟩ := own_cells hA
      obtain ⟨cb, _⟩ := own_cells hB
      obtain ⟨cc, fc⟩ := own_cells hC
      obtain ⟨cd, fd⟩ := own_cells hD
      go_simp
      exact hK _ _ ⟨_, _, rfl, ⟨(hk1.setCell_new (p := ⟨w.heap.size, 0, none⟩) (by simp <;> omega) _).setCell_new (p := ⟨w.heap.size, 1, none⟩) (by simp <;> omega) _, own_set_ne (own_set_ne hA (p := ⟨w.heap.size, 0, none⟩) (by simp <;> omega) _) (p := ⟨w.heap.size, 1, none⟩) (by simp <;> omega) _, own_set_ne (own_set_ne hB (p := ⟨w.heap.size, 0, none⟩) (by simp <;> omega) _) (p := ⟨w.heap.size, 1, none⟩) (by simp <;> omega) _, ⟨_, _, own_set (own_set hC _ _) _ _⟩, y3, y4, own_set_ne (own_set_ne hD (p := ⟨w.heap.size, 0, none⟩) (by simp <;> omega) _) (p := ⟨w.heap.size, 1, none⟩) (by simp <;> omega) _⟩, fun h => g0 (by simpa using h), fun h => g1 (by simpa using h), fun _ => own_set (own_set hC _ _) _ _, fun h => (fun g => own_set_ne (own_set_ne g (p := ⟨w.heap.size, 0, none⟩) (by simp <;> omega) _) (p := ⟨w.heap.size, 1, none⟩) (by simp <;> omega) _) (g3 (by simpa using h))⟩
    case o1_3 =>
      rintro b ac u hbl hbi hcl he ⟨t20, t21, rfl, hk, g0, g1, g2, g3⟩ K hK
      have p1 : b[1]? = some true := by simp [Region.binds] at he; simp [he]
      obtain rfl := g1 p1
      clear he
      obtain ⟨hk1, hA, hB, ⟨y1, y2, hC⟩, y3, y4, hD⟩ := hk
      obtain ⟨ca, _⟩ := own_cells hA
      obtain ⟨cb, _⟩ := own_cells hB
      obtain ⟨cc, fc⟩ := own_cells hC
      obtain ⟨cd, fd⟩ := own_cells hD
      go_simp
      exact hK _ _ ⟨_, _, rfl, ⟨(hk1.setCell_new (p := ⟨w.heap.size + 1, 0, none⟩) (by simp <;> omega) _).setCell_new (p := ⟨w.heap.size + 1, 1, none⟩) (by simp <;> omega) _, own_set_ne (own_set_ne hA (p := ⟨w.heap.size + 1, 0, none⟩) (by simp <;> omega) _) (p := ⟨w.heap.size + 1, 1, none⟩) (by simp <;> omega) _, own_set_ne (own_set_ne hB (p := ⟨w.heap.size + 1, 0, none⟩) (by simp <;> omega) _) (p := ⟨w.heap.size + 1, 1, none⟩) (by simp <;> omega) _, ⟨y1, y2, own_set_ne (own_set_ne hC (p := ⟨w.heap.size + 1, 0, none⟩) (by simp <;> omega) _) (p := ⟨w.heap.size + 1, 1, none⟩) (by simp <;> omega) _⟩, _, _, own_set (own_set hD _ _) _ _⟩, fun h => g0 (by simpa using h), fun h => g1 (by simpa using h), fun h => (fun g => own_set_ne (own_set_ne g (p := ⟨w.heap.size + 1, 0, none⟩) (by simp <;> omega) _) (p := ⟨w.heap.size + 1, 1, none⟩) (by simp <;> omega) _) (g2 (by simpa using h)), fun _ => own_set (own_set hD _ _) _ _⟩
    rintro ac u ⟨t20, t21, rfl, hk, g0, g1, g2, g3⟩
    replace g0 := g0 (by simp)
    replace g1 := g1 (by simp)
    replace g2 := g2 (by simp)
    replace g3 := g3 (by simp)
    obtain rfl := g0
    obtain rfl := g1
    obtain ⟨hk1, _⟩ := hk
    obtain ⟨c0, _⟩ := own_cells g2
    obtain ⟨c1, _⟩ := own_cells g3
    go_wp2_with fail
    refine bodyPost_ret (v := .tuple #[.agg #[.int .i64 s1, .int .i64 v1], .agg #[.int .i64 s2, .int .i64 v2]]) (by simp only [results, Try.results16]; go_simp) rfl ⟨s1, v1, _, _, rfl, Kept.below' (x := x) hk1 (by omega)⟩
  · go_wp2_with fail
    refine wp_region_each (by kernel_rfl) (by kernel_rfl) (by kernel_rfl) (fun b ac u => ∃ t16 t17 t18 t19 : Value, ac = ⟨#[.slice a len cap, undef, .pointer (some ⟨w.heap.size, 0, none⟩), .pointer (some ⟨w.heap.size + 1, 0, none⟩), .pointer (some ⟨x, 0, none⟩), .pointer (some ⟨w1.heap.size, 0, none⟩), .pointer (some ⟨w2.heap.size, 0, none⟩), .slice a len cap, .pointer (some ⟨x, 0, none⟩), .pointer (some ⟨x, 0, none⟩), .agg #[.int .i64 s1, .int .i64 v1], .pointer (some ⟨x, 0, none⟩), .agg #[.int .i64 s2, .int .i64 v2], .pointer (some ⟨x, 0, none⟩), .int .i64 m3, .bool true, t16, t17, t18, t19, undef, undef], []⟩ ∧ (Kept x w u ∧ u.heap[w1.heap.size]? = some (.cells #[.int .i64 s1, .int .i64 v1] 23 (0, 0)) ∧ u.heap[w2.heap.size]? = some (.cells #[.int .i64 s2, .int .i64 v2] 23 (0, 0)) ∧ (∃ y1 y2 : Value, u.heap[w.heap.size]? = some (.cells #[y1, y2] 23 (0, 0))) ∧ ∃ y1 y2 : Value, u.heap[w.heap.size + 1]? = some (.cells #[y1, y2] 23 (0, 0))) ∧ (b[0]? = some true → t16 = .agg #[.int .i64 s1, .int .i64 v1]) ∧ (b[1]? = some true → t17 = .agg #[.int .i64 s1, .int .i64 v1]) ∧ (b[2]? = some true → t18 = .agg #[.int .i64 s2, .int .i64 v2]) ∧ (b[3]? = some true → t19 = .agg #[.int .i64 (joinS s1 v1 s2 v2), .int .i64 (joinV s1 v1 s2 v2)]) ∧ (b[4]? = some true → u.heap[w.heap.size]? = some (.cells #[.int .i64 s1, .int .i64 v1] 23 (0, 0))) ∧ (b[5]? = some true → u.heap[w.heap.size + 1]? = some (.cells #[.int .i64 (joinS s1 v1 s2 v2), .int .i64 (joinV s1 v1 s2 v2)] 23 (0, 0)))) ?h0_2 ⟨?o2_0, ?o2_1, ?o2_2, ?o2_3, ?o2_4, ?o2_5, trivial⟩ ?hend_2
    case h0_2 => exact ⟨undef, undef, undef, undef, rfl, ⟨t3.drew, hA, hB, ⟨_, _, hC⟩, _, _, hD⟩, by simp, by simp, by simp, by simp, by simp, by simp⟩
    case o2_0 =>
      rintro b ac u hbl hbi hcl he ⟨t16, t17, t18, t19, rfl, hk, g0, g1, g2, g3, g4, g5⟩ K hK
      clear he
      obtain ⟨hk1, hA, hB, ⟨y1, y2, hC⟩, y3, y4, hD⟩ := hk
      obtain ⟨ca, _⟩ := own_cells hA
      obtain ⟨cb, _⟩ := own_cells hB
      obtain ⟨cc, fc⟩ := own_cells hC
      obtain ⟨cd, fd⟩ := own_cells hD
      go_simp
      have hR := Below.refl u.heap.size u
      exact hK _ _ ⟨_, _, _, _, rfl, ⟨hk1, hA, hB, ⟨y1, y2, hC⟩, y3, y4, hD⟩, fun _ => rfl, fun h => g1 (by simpa using h), fun h => g2 (by simpa using h), fun h => g3 (by simpa using h), fun h => (fun g => own_below hR g) (g4 (by simpa using h)), fun h => (fun g => own_below hR g) (g5 (by simpa using h))⟩
    case o2_1 =>
      rintro b ac u hbl hbi hcl he ⟨t16, t17, t18, t19, rfl, hk, g0, g1, g2, g3, g4, g5⟩ K hK
      clear he
      obtain ⟨hk1, hA, hB, ⟨y1, y2, hC⟩, y3, y4, hD⟩ := hk
      obtain ⟨ca, _⟩ := own_cells hA
      obtain ⟨cb, _⟩ := own_cells hB
      obtain ⟨cc, fc⟩ := own_cells hC
      obtain ⟨cd, fd⟩ := own_cells hD
      go_simp
      have hR := Below.refl u.heap.size u
      exact hK _ _ ⟨_, _, _, _, rfl, ⟨hk1, hA, hB, ⟨y1, y2, hC⟩, y3, y4, hD⟩, fun h => g0 (by simpa using h), fun _ => rfl, fun h => g2 (by simpa using h), fun h => g3 (by simpa using h), fun h => (fun g => own_below hR g) (g4 (by simpa using h)), fun h => (fun g => own_below hR g) (g5 (by simpa using h))⟩
    case o2_2 =>
      rintro b ac u hbl hbi hcl he ⟨t16, t17, t18, t19, rfl, hk, g0, g1, g2, g3, g4, g5⟩ K hK
      clear he
      obtain ⟨hk1, hA, hB, ⟨y1, y2, hC⟩, y3, y4, hD⟩ := hk
      obtain ⟨ca, _⟩ := own_cells hA
      obtain ⟨cb, _⟩ := own_cells hB
      obtain ⟨cc, fc⟩ := own_cells hC
      obtain ⟨cd, fd⟩ := own_cells hD
      go_simp
      have hR := Below.refl u.heap.size u
      exact hK _ _ ⟨_, _, _, _, rfl, ⟨hk1, hA, hB, ⟨y1, y2, hC⟩, y3, y4, hD⟩, fun h => g0 (by simpa using h), fun h => g1 (by simpa using h), fun _ => rfl, fun h => g3 (by simpa using h), fun h => (fun g => own_below hR g) (g4 (by simpa using h)), fun h => (fun g => own_below hR g) (g5 (by simpa using h))⟩
    case o2_3 =>
      rintro b ac u hbl hbi hcl he ⟨t16, t17, t18, t19, rfl, hk, g0, g1, g2, g3, g4, g5⟩ K hK
      have p1 : b[1]? = some true := by simp [Region.binds] at he; simp [he]
      have p2 : b[2]? = some true := by simp [Region.binds] at he; simp [he]
      obtain rfl := g1 p1
      obtain rfl := g2 p2
      clear he
      obtain ⟨hk1, hA, hB, ⟨y1, y2, hC⟩, y3, y4, hD⟩ := hk
      go_simp
      refine (slabelJoin_any _ _ _ _ _).mono ?_
      rintro e u' ⟨rfl, hR⟩
      go_simp
      exact hK _ _ ⟨_, _, _, _, rfl, ⟨hk1.of_below hR, own_below hR hA, own_below hR hB, ⟨y1, y2, own_below hR hC⟩, y3, y4, own_below hR hD⟩, fun h => g0 (by simpa using h), fun h => g1 (by simpa using h), fun h => g2 (by simpa using h), fun _ => rfl, fun h => (fun g => own_below hR g) (g4 (by simpa using h)), fun h => (fun g => own_below hR g) (g5 (by simpa using h))⟩
    case o2_4 =>
      rintro b ac u hbl hbi hcl he ⟨t16, t17, t18, t19, rfl, hk, g0, g1, g2, g3, g4, g5⟩ K hK
      have p0 : b[0]? = some true := by simp [Region.binds] at he; simp [he]
      obtain rfl := g0 p0
      clear he
      obtain ⟨hk1, hA, hB, ⟨y1, y2, hC⟩, y3, y4, hD⟩ := hk
      obtain ⟨ca, _⟩ := own_cells hA
      obtain ⟨cb, _⟩ := own_cells hB
      obtain ⟨cc, fc⟩ := own_cells hC
      obtain ⟨cd, fd⟩ := own_cells hD
      go_simp
      exact hK _ _ ⟨_, _, _, _, rfl, ⟨(hk1.setCell_new (p := ⟨w.heap.size, 0, none⟩) (by simp <;> omega) _).setCell_new (p := ⟨w.heap.size, 1, none⟩) (by simp <;> omega) _, own_set_ne (own_set_ne hA (p := ⟨w.heap.size, 0, none⟩) (by simp <;> omega) _) (p := ⟨w.heap.size, 1, none⟩) (by simp <;> omega) _, own_set_ne (own_set_ne hB (p := ⟨w.heap.size, 0, none⟩) (by simp <;> omega) _) (p := ⟨w.heap.size, 1, none⟩) (by simp <;> omega) _, ⟨_, _, own_set (own_set hC _ _) _ _⟩, y3, y4, own_set_ne (own_set_ne hD (p := ⟨w.heap.size, 0, none⟩) (by simp <;> omega) _) (p := ⟨w.heap.size, 1, none⟩) (by simp <;> omega) _⟩, fun h => g0 (by simpa using h), fun h => g1 (by simpa using h), fun h => g2 (by simpa using h), fun h => g3 (by simpa using h), fun _ => own_set (own_set hC _ _) _ _, fun h => (fun g => own_set_ne (own_set_ne g (p := ⟨w.heap.size, 0, none⟩) (by simp <;> omega) _) (p := ⟨w.heap.size, 1, none⟩) (by simp <;> omega) _) (g5 (by simpa using h))⟩
    case o2_5 =>
      rintro b ac u hbl hbi hcl he ⟨t16, t17, t18, t19, rfl, hk, g0, g1, g2, g3, g4, g5⟩ K hK
      have p3 : b[3]? = some true := by simp [Region.binds] at he; simp [he]
      obtain rfl := g3 p3
      clear he
      obtain ⟨hk1, hA, hB, ⟨y1, y2, hC⟩, y3, y4, hD⟩ := hk
      obtain ⟨ca, _⟩ := own_cells hA
      obtain ⟨cb, _⟩ := own_cells hB
      obtain ⟨cc, fc⟩ := own_cells hC
      obtain ⟨cd, fd⟩ := own_cells hD
      go_simp
      exact hK _ _ ⟨_, _, _, _, rfl, ⟨(hk1.setCell_new (p := ⟨w.heap.size + 1, 0, none⟩) (by simp <;> omega) _).setCell_new (p := ⟨w.heap.size + 1, 1, none⟩) (by simp <;> omega) _, own_set_ne (own_set_ne hA (p := ⟨w.heap.size + 1, 0, none⟩) (by simp <;> omega) _) (p := ⟨w.heap.size + 1, 1, none⟩) (by simp <;> omega) _, own_set_ne (own_set_ne hB (p := ⟨w.heap.size + 1, 0, none⟩) (by simp <;> omega) _) (p := ⟨w.heap.size + 1, 1, none⟩) (by simp <;> omega) _, ⟨y1, y2, own_set_ne (own_set_ne hC (p := ⟨w.heap.size + 1, 0, none⟩) (by simp <;> omega) _) (p := ⟨w.heap.size + 1, 1, none⟩) (by simp <;> omega) _⟩, _, _, own_set (own_set hD _ _) _ _⟩, fun h => g0 (by simpa using h), fun h => g1 (by simpa using h), fun h => g2 (by simpa using h), fun h => g3 (by simpa using h), fun h => (fun g => own_set_ne (own_set_ne g (p := ⟨w.heap.size + 1, 0, none⟩) (by simp <;> omega) _) (p := ⟨w.heap.size + 1, 1, none⟩) (by simp <;> omega) _) (g4 (by simpa using h)), fun _ => own_set (own_set hD _ _) _ _⟩
    rintro ac u ⟨t16, t17, t18, t19, rfl, hk, g0, g1, g2, g3, g4, g5⟩
    replace g0 := g0 (by simp)
    replace g1 := g1 (by simp)
    replace g2 := g2 (by simp)
    replace g3 := g3 (by simp)
    replace g4 := g4 (by simp)
    replace g5 := g5 (by simp)
    obtain rfl := g0
    obtain rfl := g1
    obtain rfl := g2
    obtain rfl := g3
    obtain ⟨hk1, _⟩ := hk
    obtain ⟨c0, _⟩ := own_cells g4
    obtain ⟨c1, _⟩ := own_cells g5
    go_wp2_with fail
    refine bodyPost_ret (v := .tuple #[.agg #[.int .i64 s1, .int .i64 v1], .agg #[.int .i64 (joinS s1 v1 s2 v2), .int .i64 (joinV s1 v1 s2 v2)]]) (by simp only [results, Try.results16]; go_simp) rfl ⟨s1, v1, _, _, rfl, Kept.below' (x := x) hk1 (by omega)⟩
end Go.Proofs.Ytmgikgcoigcadaa
