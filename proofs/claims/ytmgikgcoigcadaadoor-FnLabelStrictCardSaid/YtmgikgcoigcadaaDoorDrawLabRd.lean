/- A drawn word out of a list of four, and the drawn text for the reading of a label. No condition but that the reader's place stays small. -/
import Derived.Test.YtmgikgcoigcadaaDoorDrawTxt
import Derived.Test.YtmgikgcoigcadaaDoorTxt
import Derived.Deep.RegionWith
namespace Go.Proofs.YtmgikgcoigcadaaDoor
set_option maxRecDepth 100000
open Go.RowKit
set_option linter.unusedVariables false

/-- What a draw of a short word leaves. -/
def WordDrawn (x : Nat) (p : Int) (w : World) (e : Ending) (w' : World) : Prop :=
  ∃ s : ByteArray, e = .returned (.string s) ∧ s.size ≤ 3 ∧ Rd w' x (p + 1) ∧ Kept x w w'
theorem word_list (vs : List Value) (i : Nat) (h : ∀ v ∈ vs, ∃ y : ByteArray, v = .string y ∧ y.size ≤ 3) (hi : i < vs.length) : ∃ y : ByteArray, vs[i] = .string y ∧ y.size ≤ 3 := h _ (List.getElem_mem hi)
set_option maxHeartbeats 2000000 in
theorem of_any (x : Nat) (p : Int) (B : Nat) (a b c d : ByteArray) (ha : a.size ≤ 3) (hb : b.size ≤ 3) (hc : c.size ≤ 3) (hd : d.size ≤ 3) (w : World) (hB : w.heap[B]? = some (.cells #[.string a, .string b, .string c, .string d] 9 (0, 0))) (hx : ¬ B = x) (hr : Rd w x p) (hp0 : 0 ≤ p) (hp : p ≤ 90000000) :
    Calls Tryd.prog 36 #[.pointer (some ⟨x, 0, none⟩), .slice (some ⟨B, 0, none⟩) 4 4] w (WordDrawn x p w) := by
  have t0 : Kept x w w := Kept.refl _ _
  have r0 := hr
  have lx0 := r0.lt
  go_enter Tryd.func36, Tryd.ntmps36
  go_wp2_with fail
  have lB := own_lt hB
  refine (pick_any _ _ _ _ (by (repeat (first | with_reducible exact r0 | with_reducible apply Rd.setCell | with_reducible apply Rd.alloc | with_reducible apply Rd.drew)); (all_goals (first | omega | (simp <;> omega)))) (by omega) (by omega)).mono ?_
  rintro e w1 ⟨m1, rfl, lo1, hi1, _, r1, k1⟩
  replace hi1 := hi1 (by omega)
  have z1 := k1.size
  try simp at z1
  have lx1 := r1.lt
  have z1_0 : B < w1.heap.size := by omega
  have y1_0 : ¬ B = x := by omega
  have t1 : Kept x w w1 := by
    refine Kept.trans ?_ k1
    · (repeat (first | with_reducible exact t0 | with_reducible refine Kept.setCell_new ?_ ?_ _ | with_reducible refine Kept.alloc ?_ _ | with_reducible refine Kept.drew ?_)); (all_goals (first | omega | (simp <;> omega)))
  obtain ⟨c1, f1⟩ := kcell k1
  replace hB := own_kept k1 hx hB
  obtain ⟨cc_hB, ff_hB⟩ := own_cells hB
  obtain ⟨y, hy, hy3⟩ := word_list [.string a, .string b, .string c, .string d] m1.toNat (by simp; exact ⟨ha, hb, hc, hd⟩) (by simp; omega)
  clear c1 f1
  go_wp2_with fail
  go_ret
  exact ⟨y, rfl, hy3, r1, t1⟩
set_option maxHeartbeats 4000000 in
theorem drawLabelRead_any (a : Option Addr) (len cap : Nat) (z : List Int) (w : World) (hr : IsRow .u8 w a len cap z) :
    Calls Tryd.prog 21 #[.slice a len cap] w fun e w' => ∃ s : ByteArray, e = .returned (.string s) ∧ s.size ≤ 1000 ∧ Below w.heap.size w w' := by
  go_enter Tryd.func21, Tryd.ntmps21
  go_wp2_with fail
  refine (l6Open_any _ _ _ _ _ hr).mono ?_
  rintro e w0 ⟨x, hx0, rfl, r0, b0⟩
  have z0 := b0.size
  try simp at z0
  have lx0 := r0.lt
  try simp at hx0
  have t0 : Kept x w w0 := by
    refine Kept.of_below ?_ b0
    · repeat (first | exact Kept.refl _ _ | refine Kept.alloc ?_ _)
  obtain ⟨c0, f0⟩ := bcell b0
  clear b0 c0 f0
  go_wp2_with fail
  refine (l71Label_any _ _ _ (by (repeat (first | with_reducible exact r0 | with_reducible apply Rd.setCell | with_reducible apply Rd.alloc | with_reducible apply Rd.drew)); (all_goals (first | omega | (simp <;> omega)))) (by omega) (by omega)).mono ?_
  rintro e w1 ⟨s1, v1, rfl, p1, lp1, up1, r1, k1⟩
  have z1 := k1.size
  try simp at z1
  have lx1 := r1.lt
  have t1 : Kept x w w1 := by
    refine Kept.trans ?_ k1
    · (repeat (first | with_reducible exact t0 | with_reducible refine Kept.setCell_new ?_ ?_ _ | with_reducible refine Kept.alloc ?_ _ | with_reducible refine Kept.drew ?_)); (all_goals (first | omega | (simp <;> omega)))
  obtain ⟨c1, f1⟩ := kcell k1
  clear c1 f1 k1
  go_wp2_with fail
  refine (slabelText_any _ _ _).mono ?_
  rintro e w2 ⟨rfl, b2⟩
  have t2 := Kept.of_below t1 b2
  have r2 := r1.below b2
  have lx2 := r2.lt
  clear b2
  have z2 : (txt (lblTxt s1 v1)).size ≤ 3 := by
    rw [txt_size]
    unfold lblTxt
    split
    · rename_i e
      obtain ⟨b1, b2, b3, b4⟩ := lblOk_bd e
      rw [dec_small s1.toNat (by omega), dec_small v1.toNat (by omega)]
      simp
    · simp
  generalize txt (lblTxt s1 v1) = S at z2 ⊢
  go_wp2_with fail
  refine (pick_any _ _ _ _ (by (repeat (first | with_reducible exact r2 | with_reducible apply Rd.setCell | with_reducible apply Rd.alloc | with_reducible apply Rd.drew)); (all_goals (first | omega | (simp <;> omega)))) (by omega) (by omega)).mono ?_
  rintro e w3 ⟨m3, rfl, lo3, hi3, _, r3, k3⟩
  replace hi3 := hi3 (by omega)
  have z3 := k3.size
  try simp at z3
  have lx3 := r3.lt
  have t3 : Kept x w w3 := by
    refine Kept.trans ?_ k3
    · (repeat (first | with_reducible exact t2 | with_reducible refine Kept.setCell_new ?_ ?_ _ | with_reducible refine Kept.alloc ?_ _ | with_reducible refine Kept.drew ?_)); (all_goals (first | omega | (simp <;> omega)))
  obtain ⟨c3, f3⟩ := kcell k3
  clear c3 f3 k3
  go_wp2_with fail
  refine (pick_any _ _ _ _ (by (repeat (first | with_reducible exact r3 | with_reducible apply Rd.setCell | with_reducible apply Rd.alloc | with_reducible apply Rd.drew)); (all_goals (first | omega | (simp <;> omega)))) (by omega) (by omega)).mono ?_
  rintro e w4 ⟨m4, rfl, lo4, hi4, _, r4, k4⟩
  replace hi4 := hi4 (by omega)
  have z4 := k4.size
  try simp at z4
  have lx4 := r4.lt
  have t4 : Kept x w w4 := by
    refine Kept.trans ?_ k4
    · (repeat (first | with_reducible exact t3 | with_reducible refine Kept.setCell_new ?_ ?_ _ | with_reducible refine Kept.alloc ?_ _ | with_reducible refine Kept.drew ?_)); (all_goals (first | omega | (simp <;> omega)))
  obtain ⟨c4, f4⟩ := kcell k4
  clear c4 f4 k4
  cases q0 : (m4 == 0)
  · cases q1 : (m4 == 1)
    · cases q2 : (m4 == 2)
      · go_wp2_with fail
        go_ret
        exact ⟨S, rfl, by omega, Kept.below' (x := x) t4 (by omega)⟩
      · go_wp2_with fail
        refine (of_any x (p1 + 1 + 1) w4.heap.size _ _ _ _ (by decide) (by decide) (by decide) (by decide) _ (own_new _ _) (by omega) (r4.alloc _) (by omega) (by omega)).mono ?_
        rintro e w5 ⟨y, rfl, hy, r5, k5⟩
        have t5 := (t4.alloc (.cells #[.string ⟨#[52, 47, 48]⟩, .string ⟨#[48, 47, 52]⟩, .string ⟨#[49, 45, 49]⟩, .string ⟨#[97, 47, 98]⟩] 9)).trans k5
        go_wp2_with fail
        go_ret
        exact ⟨y, rfl, by omega, Kept.below' (x := x) t5 (by omega)⟩
    · go_wp2_with fail
      have HO := of_any x (p1 + 1 + 1) w4.heap.size ⟨#[48]⟩ ⟨#[47]⟩ ⟨#[52]⟩ ⟨#[32]⟩ (by decide) (by decide) (by decide) (by decide) (w4.alloc (.cells #[.string ⟨#[48]⟩, .string ⟨#[47]⟩, .string ⟨#[52]⟩, .string ⟨#[32]⟩] 9)).drew (own_new _ _) (by omega) (r4.alloc _).drew (by omega) (by omega)
      have HO' := hid HO
      clear HO
      go_region_with (go_at_call 36; refine (HO'.out).mono ?_; rintro e w5 ⟨y, rfl, hy, r5, k5⟩)
      all_goals
        go_wp2_with fail
        go_ret
        refine ⟨_, rfl, ?_, Kept.below' (x := x) (((t4.alloc _).drew).trans k5) (by omega)⟩
        simp
        omega
  · go_wp2_with fail
    go_ret
    refine ⟨_, rfl, ?_, Kept.below' (x := x) t4 (by omega)⟩
    simp
    omega
end Go.Proofs.YtmgikgcoigcadaaDoor
