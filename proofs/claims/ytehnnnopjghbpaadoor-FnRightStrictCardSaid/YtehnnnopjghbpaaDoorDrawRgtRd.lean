/- The drawn text for the reading of a right. No condition but that the code is a row of bytes. -/
import Derived.Test.YtehnnnopjghbpaaDoorDrawLabRd
import Derived.Test.YtehnnnopjghbpaaDoorRwRightReads
namespace Go.Proofs.YtehnnnopjghbpaaDoor
set_option maxRecDepth 100000
open Go.RowKit
set_option linter.unusedVariables false

set_option maxHeartbeats 4000000 in
theorem drawRightRead_any (a : Option Addr) (len cap : Nat) (z : List Int) (w : World) (hr : IsRow .u8 w a len cap z) :
    Calls Tryd.prog 10 #[.slice a len cap] w fun e w' => ∃ s : ByteArray, e = .returned (.string s) ∧ s.size ≤ 1000 ∧ Below w.heap.size w w' := by
  go_enter Tryd.func10, Tryd.ntmps10
  go_wp2_with fail
  refine (l6Open_any _ _ _ _ _ hr).mono ?_
  rintro e w0 ⟨x, hx0, rfl, r0, b0⟩
  have z0 := b0.size
  try simp at z0
  have lx0 := r0.lt
  try simp at hx0
  have t0 : Kept x w w0 := by
    refine Kept.of_below ?_ b0
    · repeat (first | exact Kept.refl _ _ | refine Kept.alloc ?_ _)
  obtain ⟨c0, f0⟩ := bcell b0
  clear b0 c0 f0
  go_wp2_with fail
  refine (l71Right_any _ _ _ (by (repeat (first | with_reducible exact r0 | with_reducible apply Rd.setCell | with_reducible apply Rd.alloc | with_reducible apply Rd.drew)); (all_goals (first | omega | (simp <;> omega)))) (by omega) (by omega)).mono ?_
  rintro e w1 ⟨g1, v1, r'1, wr1, k'1, rfl, _, _, _, _, p1, lp1, up1, r1, k1⟩
  have z1 := k1.size
  try simp at z1
  have lx1 := r1.lt
  have t1 : Kept x w w1 := by
    refine Kept.trans ?_ k1
    · (repeat (first | with_reducible exact t0 | with_reducible refine Kept.setCell_new ?_ ?_ _ | with_reducible refine Kept.alloc ?_ _ | with_reducible refine Kept.drew ?_)); (all_goals (first | omega | (simp <;> omega)))
  obtain ⟨c1, f1⟩ := kcell k1
  clear c1 f1 k1
  go_wp2_with fail
  refine (srightText_any _ _ _ _ _ _).mono ?_
  rintro e w2 ⟨rfl, b2⟩
  have t2 := Kept.of_below t1 b2
  have r2 := r1.below b2
  have lx2 := r2.lt
  clear b2
  have z2 := rgtTxt_len g1 v1 r'1 wr1 k'1
  generalize txt (rgtTxt g1 v1 r'1 wr1 k'1) = S at z2 ⊢
  go_wp2_with fail
  refine (pick_any _ _ _ _ (by (repeat (first | with_reducible exact r2 | with_reducible apply Rd.setCell | with_reducible apply Rd.alloc | with_reducible apply Rd.drew)); (all_goals (first | omega | (simp <;> omega)))) (by omega) (by omega)).mono ?_
  rintro e w3 ⟨m3, rfl, lo3, hi3, _, r3, k3⟩
  replace hi3 := hi3 (by omega)
  have z3 := k3.size
  try simp at z3
  have lx3 := r3.lt
  have t3 : Kept x w w3 := by
    refine Kept.trans ?_ k3
    · (repeat (first | with_reducible exact t2 | with_reducible refine Kept.setCell_new ?_ ?_ _ | with_reducible refine Kept.alloc ?_ _ | with_reducible refine Kept.drew ?_)); (all_goals (first | omega | (simp <;> omega)))
  obtain ⟨c3, f3⟩ := kcell k3
  clear c3 f3 k3
  go_wp2_with fail
  refine (pick_any _ _ _ _ (by (repeat (first | with_reducible exact r3 | with_reducible apply Rd.setCell | with_reducible apply Rd.alloc | with_reducible apply Rd.drew)); (all_goals (first | omega | (simp <;> omega)))) (by omega) (by omega)).mono ?_
  rintro e w4 ⟨m4, rfl, lo4, hi4, _, r4, k4⟩
  replace hi4 := hi4 (by omega)
  have z4 := k4.size
  try simp at z4
  have lx4 := r4.lt
  have t4 : Kept x w w4 := by
    refine Kept.trans ?_ k4
    · (repeat (first | with_reducible exact t3 | with_reducible refine Kept.setCell_new ?_ ?_ _ | with_reducible refine Kept.alloc ?_ _ | with_reducible refine Kept.drew ?_)); (all_goals (first | omega | (simp <;> omega)))
  obtain ⟨c4, f4⟩ := kcell k4
  clear c4 f4 k4
  cases q0 : (m4 == 0)
  · cases q1 : (m4 == 1)
    · go_wp2_with fail
      go_ret
      exact ⟨S, rfl, by omega, Kept.below' (x := x) t4 (by omega)⟩
    · go_wp2_with fail
      have HO := of_any x (p1 + 1 + 1) w4.heap.size ⟨#[48]⟩ ⟨#[45]⟩ ⟨#[114]⟩ ⟨#[107]⟩ (by decide) (by decide) (by decide) (by decide) (w4.alloc (.cells #[.string ⟨#[48]⟩, .string ⟨#[45]⟩, .string ⟨#[114]⟩, .string ⟨#[107]⟩] 9)).drew (own_new _ _) (by omega) (r4.alloc _).drew (by omega) (by omega)
      have HO' := hid HO
      clear HO
      go_region_with (go_at_call 21; refine (HO'.out).mono ?_; rintro e w5 ⟨y, rfl, hy, r5, k5⟩)
      all_goals
        go_wp2_with fail
        go_ret
        refine ⟨_, rfl, ?_, Kept.below' (x := x) (((t4.alloc _).drew).trans k5) (by omega)⟩
        simp
        omega
  · go_wp2_with fail
    go_ret
    refine ⟨_, rfl, ?_, Kept.below' (x := x) t4 (by omega)⟩
    simp
    omega
end Go.Proofs.YtehnnnopjghbpaaDoor
