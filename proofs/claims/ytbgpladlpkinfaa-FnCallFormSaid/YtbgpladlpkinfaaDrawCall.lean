/- Opening a reader, and the drawn call. No condition but that the code is a row of bytes. -/
import Derived.Test.YtbgpladlpkinfaaDraw
namespace Go.Proofs.Ytbgpladlpkinfaa
open Go.RowKit
set_option linter.unusedVariables false

/-- What a fresh reader leaves. -/
def Opened (w : World) (e : Ending) (w' : World) : Prop := ∃ x, w.heap.size ≤ x ∧ e = .returned (.pointer (some ⟨x, 0, none⟩)) ∧ Rd w' x 0 ∧ Below w.heap.size w w'

theorem opened_of {w : World} {a : Option Addr} {len cap T : Nat} (hb : Bytes w w.heap.size a len) :
    Opened w (.returned (.pointer (some ⟨w.heap.size, 0, none⟩))) (w.alloc (.cells #[.slice a len cap, .int .i64 0] T)) := by
  have hk : Kept w.heap.size w (w.alloc (.cells #[.slice a len cap, .int .i64 0] T)) := (Kept.refl _ w).alloc _
  refine ⟨_, Nat.le_refl _, rfl, ⟨by simp, a, len, cap, ?_, ?_, ?_, hb.kept (Nat.le_refl _) hk⟩, (Below.refl _ _).alloc (Nat.le_refl _) _⟩ <;> go_simp
theorem Kept.below' {x : Nat} {w w' : World} (h : Kept x w w') (hx : w.heap.size ≤ x) : Below w.heap.size w w' :=
  ⟨h.os, h.tape, h.output, h.size, fun k hk => h.block k hk (by omega)⟩

theorem l6Open_any (a : Option Addr) (len cap : Nat) (z : List Int) (w : World) (hr : IsRow .u8 w a len cap z) :
    Calls Try.prog 20 #[.slice a len cap] w (Opened w) := by
  rcases hr with ⟨rfl, rfl, rfl, rfl⟩ | ⟨⟨b, off, spot⟩, rfl, hl, hm, hz, hcell, hwz⟩
  · go_enter Try.func20, Try.ntmps20
    go_wp2
    go_ret
    exact opened_of (.inl rfl)
  · unfold maxLen at hm
    by_cases h0 : len = 0
    · subst h0
      go_enter Try.func20, Try.ntmps20
      go_wp2
      go_ret
      exact opened_of (.inl rfl)
    have hc0 := hcell 0 (by omega)
    obtain rfl : spot = none := by simpa [Addr.add] using World.cell?_spot hc0
    have hbw : b < w.heap.size := by
      apply Classical.byContradiction
      intro hb
      rw [World.cell?] at hc0
      simp [Addr.add, show w.heap[b]? = none from by simp; omega] at hc0
    have hb : ∀ n : Nat, n ≤ 2000 → n ≤ len → Bytes w w.heap.size (some ⟨b, off, none⟩) n := by
      intro n hn hnl
      refine .inr ⟨b, off, fun i => if i < z.length then z.getD i 0 else 0, rfl, hbw, hn, fun i hi => ?_, fun i => ?_⟩
      · have h := hcell i (by omega)
        have e : (⟨b, off, none⟩ : Addr).add i = ⟨b, off + i, none⟩ := by unfold Addr.add; split <;> simp_all
        rw [e] at h
        have hiz : i < z.length := by omega
        simp only [hiz, if_true]
        exact h
      · by_cases hi : i < z.length
        · have := hwz (z.getD i 0) (by simp [List.getElem?_eq_getElem hi])
          simp only [hi, if_true]
          simpa [Lit.wf, IntKind.min, IntKind.max, IntKind.bits, IntKind.signed] using this
        · simp [hi]
    have H := hid hb
    clear hb hc0 hcell hwz
    by_cases hg : 2000 < len
    · go_enter Try.func20, Try.ntmps20
      go_wp2
      go_ret
      exact opened_of (H.out _ (by omega) (by omega))
    · go_enter Try.func20, Try.ntmps20
      go_wp2
      go_ret
      exact opened_of (H.out _ (by omega) (by omega))
/-- The drawn call: five numbers. -/
def DrawnCall (w : World) (e : Ending) (w' : World) : Prop := ∃ k r a b n : Int, e = .returned (.agg #[.int .i64 k, .int .i64 r, .int .i64 a, .int .i64 b, .int .i64 n]) ∧ Below w.heap.size w w'
set_option maxHeartbeats 1000000 in
theorem drawCallOk_any (a : Option Addr) (len cap : Nat) (z : List Int) (w : World) (hr : IsRow .u8 w a len cap z) :
    Calls Try.prog 17 #[.slice a len cap] w (DrawnCall w) := by
  go_enter Try.func17, Try.ntmps17
  go_wp2_with fail
  refine (l6Open_any _ _ _ _ _ (hr.alloc _)).mono ?_
  rintro e w0 ⟨x, hx0, rfl, r0, b0⟩
  have z0 := b0.size
  try simp at z0
  have lx0 := r0.lt
  try simp at hx0
  have z0_0 : w.heap.size < w0.heap.size := by omega
  have y0_0 : ¬ w.heap.size = x := by omega
  have t0 : Kept x w w0 := by
    refine Kept.of_below ?_ b0
    · repeat (first | exact Kept.refl _ _ | refine Kept.alloc ?_ _)
  obtain ⟨c0, f0⟩ := bcell b0
  clear b0
  go_wp2_with fail
  refine (pick_any _ _ _ _ (by (repeat (first | exact r0 | apply Rd.alloc | apply Rd.setCell | apply Rd.drew)); (all_goals (first | omega | (simp <;> omega)))) (by omega) (by omega)).mono ?_
  rintro e w1 ⟨m1, rfl, lo1, hi1, _, r1, k1⟩
  replace hi1 := hi1 (by omega)
  have z1 := k1.size
  try simp at z1
  have lx1 := r1.lt
  have z1_0 : w.heap.size < w1.heap.size := by omega
  have y1_0 : ¬ w.heap.size = x := by omega
  have t1 : Kept x w w1 := by
    refine Kept.trans ?_ k1
    · (repeat (first | exact t0 | refine Kept.alloc ?_ _ | refine Kept.setCell_new ?_ ?_ _ | refine Kept.drew ?_)); (all_goals (first | omega | (simp <;> omega)))
  obtain ⟨c1, f1⟩ := kcell k1
  clear k1
  go_wp2_with fail
  refine (pick_any _ _ _ _ (by (repeat (first | exact r1 | apply Rd.alloc | apply Rd.setCell | apply Rd.drew)); (all_goals (first | omega | (simp <;> omega)))) (by omega) (by omega)).mono ?_
  rintro e w2 ⟨m2, rfl, lo2, hi2, _, r2, k2⟩
  replace hi2 := hi2 (by omega)
  have z2 := k2.size
  try simp at z2
  have lx2 := r2.lt
  have z2_0 : w.heap.size < w2.heap.size := by omega
  have y2_0 : ¬ w.heap.size = x := by omega
  have t2 : Kept x w w2 := by
    refine Kept.trans ?_ k2
    · (repeat (first | exact t1 | refine Kept.alloc ?_ _ | refine Kept.setCell_new ?_ ?_ _ | refine Kept.drew ?_)); (all_goals (first | omega | (simp <;> omega)))
  obtain ⟨c2, f2⟩ := kcell k2
  clear k2
  go_wp2_with fail
  refine (pick_any _ _ _ _ (by (repeat (first | exact r2 | apply Rd.alloc | apply Rd.setCell | apply Rd.drew)); (all_goals (first | omega | (simp <;> omega)))) (by omega) (by omega)).mono ?_
  rintro e w3 ⟨m3, rfl, lo3, hi3, _, r3, k3⟩
  replace hi3 := hi3 (by omega)
  have z3 := k3.size
  try simp at z3
  have lx3 := r3.lt
  have z3_0 : w.heap.size < w3.heap.size := by omega
  have y3_0 : ¬ w.heap.size = x := by omega
  have t3 : Kept x w w3 := by
    refine Kept.trans ?_ k3
    · (repeat (first | exact t2 | refine Kept.alloc ?_ _ | refine Kept.setCell_new ?_ ?_ _ | refine Kept.drew ?_)); (all_goals (first | omega | (simp <;> omega)))
  obtain ⟨c3, f3⟩ := kcell k3
  clear k3
  go_wp2_with fail
  refine (pick_any _ _ _ _ (by (repeat (first | exact r3 | apply Rd.alloc | apply Rd.setCell | apply Rd.drew)); (all_goals (first | omega | (simp <;> omega)))) (by omega) (by omega)).mono ?_
  rintro e w4 ⟨m4, rfl, lo4, hi4, _, r4, k4⟩
  replace hi4 := hi4 (by omega)
  have z4 := k4.size
  try simp at z4
  have lx4 := r4.lt
  have z4_0 : w.heap.size < w4.heap.size := by omega
  have y4_0 : ¬ w.heap.size = x := by omega
  have t4 : Kept x w w4 := by
    refine Kept.trans ?_ k4
    · (repeat (first | exact t3 | refine Kept.alloc ?_ _ | refine Kept.setCell_new ?_ ?_ _ | refine Kept.drew ?_)); (all_goals (first | omega | (simp <;> omega)))
  obtain ⟨c4, f4⟩ := kcell k4
  clear k4
  go_wp2_with fail
  refine (pick_any _ _ _ _ (by (repeat (first | exact r4 | apply Rd.alloc | apply Rd.setCell | apply Rd.drew)); (all_goals (first | omega | (simp <;> omega)))) (by omega) (by omega)).mono ?_
  rintro e w5 ⟨m5, rfl, lo5, hi5, _, r5, k5⟩
  replace hi5 := hi5 (by omega)
  have z5 := k5.size
  try simp at z5
  have lx5 := r5.lt
  have z5_0 : w.heap.size < w5.heap.size := by omega
  have y5_0 : ¬ w.heap.size = x := by omega
  have t5 : Kept x w w5 := by
    refine Kept.trans ?_ k5
    · (repeat (first | exact t4 | refine Kept.alloc ?_ _ | refine Kept.setCell_new ?_ ?_ _ | refine Kept.drew ?_)); (all_goals (first | omega | (simp <;> omega)))
  obtain ⟨c5, f5⟩ := kcell k5
  clear k5
  go_wp2_with fail
  refine (pick_any _ _ _ _ (by (repeat (first | exact r5 | apply Rd.alloc | apply Rd.setCell | apply Rd.drew)); (all_goals (first | omega | (simp <;> omega)))) (by omega) (by omega)).mono ?_
  rintro e w6 ⟨m6, rfl, lo6, hi6, _, r6, k6⟩
  replace hi6 := hi6 (by omega)
  have z6 := k6.size
  try simp at z6
  have lx6 := r6.lt
  have z6_0 : w.heap.size < w6.heap.size := by omega
  have y6_0 : ¬ w.heap.size = x := by omega
  have z6_1 : w5.heap.size < w6.heap.size := by omega
  have y6_1 : ¬ w5.heap.size = x := by omega
  have t6 : Kept x w w6 := by
    refine Kept.trans ?_ k6
    · (repeat (first | exact t5 | refine Kept.alloc ?_ _ | refine Kept.setCell_new ?_ ?_ _ | refine Kept.drew ?_)); (all_goals (first | omega | (simp <;> omega)))
  obtain ⟨c6, f6⟩ := kcell k6
  clear k6
  have o0 : w6.cell? ⟨w.heap.size, 0, none⟩ = some (.int .i64 0) := by go_simp
  have o1 : w6.cell? ⟨w.heap.size, 1, none⟩ = some (.int .i64 0) := by go_simp
  have o2 : w6.cell? ⟨w.heap.size, 2, none⟩ = some (.int .i64 0) := by go_simp
  have o3 : w6.cell? ⟨w.heap.size, 3, none⟩ = some (.int .i64 0) := by go_simp
  have o4 : w6.cell? ⟨w.heap.size, 4, none⟩ = some (.int .i64 0) := by go_simp
  obtain ⟨n6, q6, _⟩ := pick_list [.int .i64 m5, .int .i64 99, .int .i64 100, .int .i64 (-1)] m6.toNat (fun _ => True) (by simp) (by simp; omega)
  go_wp2_with fail
  refine bodyPost_ret (v := .agg #[.int .i64 m1, .int .i64 m2, .int .i64 m3, .int .i64 m4, .int .i64 n6]) (by simp only [results, Try.results17]; go_simp) rfl ⟨m1, m2, m3, m4, n6, rfl, Kept.below' (x := x) ?_ (by omega)⟩
  (repeat (first | exact t6 | refine Kept.alloc ?_ _ | refine Kept.setCell_new ?_ ?_ _ | refine Kept.drew ?_)); (all_goals (first | omega | (simp <;> omega)))
end Go.Proofs.Ytbgpladlpkinfaa
