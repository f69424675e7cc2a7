/- A drawn word out of a list of four, and the drawn text for the reading of a label. No condition but that the reader's place stays small. -/
import Derived.Test.YtehnnnopjghbpaaDoorDrawTxt
import Derived.Test.YtehnnnopjghbpaaDoorTxt
import Derived.Deep.RegionWith
namespace Go.Proofs.YtehnnnopjghbpaaDoor
set_option maxRecDepth 100000
open Go.RowKit
set_option linter.unusedVariables false

/-- What a draw of a short word leaves. -/
def WordDrawn (x : Nat) (p : Int) (w : World) (e : Ending) (w' : World) : Prop :=
  ∃ s : ByteArray, e = .returned (.string s) ∧ s.size ≤ 3 ∧ Rd w' x (p + 1) ∧ Kept x w w'
theorem word_list (vs : List Value) (i : Nat) (h : ∀ v ∈ vs, ∃ y : ByteArray, v = .string y ∧ y.size ≤ 3) (hi : i < vs.length) : ∃ y : ByteArray, vs[i] = .string y ∧ y.size ≤ 3 := h _ (List.getElem_mem hi)
set_option maxHeartbeats 2000000 in
theorem of_any (x : Nat) (p : Int) (B : Nat) (a b c d : ByteArray) (ha : a.size ≤ 3) (hb : b.size ≤ 3) (hc : c.size ≤ 3) (hd : d.size ≤ 3) (w : World) (hB : w.heap[B]? = some (.cells #[.string a, .string b, .string c, .string d] 9 (0, 0))) (hx : ¬ B = x) (hr : Rd w x p) (hp0 : 0 ≤ p) (hp : p ≤ 90000000) :
    Calls Tryd.prog 21 #[.pointer (some ⟨x, 0, none⟩), .slice (some ⟨B, 0, none⟩) 4 4] w (WordDrawn x p w) := by
  have t0 : Kept x w w := Kept.refl _ _
  have r0 := hr
  have lx0 := r0.lt
  go_enter Tryd.func21, Tryd.ntmps21
  go_wp2_with fail
  have lB := own_lt hB
  refine (pick_any _ _ _ _ (by (repeat (first | with_reducible exact r0 | with_reducible apply Rd.setCell | with_reducible apply Rd.alloc | with_reducible apply Rd.drew)); (all_goals (first | omega | (simp <;> omega)))) (by omega) (by omega)).mono ?_
  rintro e w1 ⟨m1, rfl, lo1, hi1, _, r1, k1⟩
  replace hi1 := hi1 (by omega)
  have z1 := k1.size
  try simp at z1
  have lx1 := r1.lt
  have z1_0 : B < w1.heap.size := by omega
  have y1_0 : ¬ B = x := by omega
  have t1 : Kept x w w1 := by
    refine Kept.trans ?_ k1
    · (repeat (first | with_reducible exact t0 | with_reducible refine Kept.setCell_new ?_ ?_ _ | with_reducible refine Kept.alloc ?_ _ | with_reducible refine Kept.drew ?_)); (all_goals (first | omega | (simp <;> omega)))
  obtain ⟨c1, f1⟩ := kcell k1
  replace hB := own_kept k1 hx hB
  obtain ⟨cc_hB, ff_hB⟩ := own_cells hB
  obtain ⟨y, hy, hy3⟩ := word_list [.string a, .string b, .string c, .string d] m1.toNat (by simp; exact ⟨ha, hb, hc, hd⟩) (by simp; omega)
  clear c1 f1
  go_wp2_with fail
  go_ret
  exact ⟨y, rfl, hy3, r1, t1⟩
end Go.Proofs.YtehnnnopjghbpaaDoor
