/- Contracts of decimals from -4 on and of the names of kinds, of the program and of the reference. The program's ask that strconv's table lies in its variable. -/
import Derived.Test.YtcgmnpppdoadhaaDoorShelf
import Derived.Test.YtcgmnpppdoadhaaDoorTtP
import Derived.Test.YtcgmnpppdoadhaaDoorRgtTxt3
import Derived.Lib.AppendIntMem
import Derived.WalkSmall
namespace Go.Proofs.YtcgmnpppdoadhaaDoor
set_option maxRecDepth 100000
open Go Go.RowKit
set_option linter.unusedVariables false
set_option linter.unusedSimpArgs false

/-- strconv's table of powers of ten lies in its variable. -/
def Tab (w : World) : Prop := Lib.TabIs Tryd.prog w "internal/strconv.uint64pow10" .u64 Lib.pow10Tab ∧ 1 < w.heap.size
theorem tabG : Tryd.prog.globalNamed "internal/strconv.uint64pow10" = some 1 := by kernel_rfl
theorem Tab.below {w w' : World} (h : Tab w) (hb : Below w.heap.size w w') : Tab w' := ⟨var?_below hb tabG h.2 h.1, Nat.lt_of_lt_of_le h.2 hb.size⟩
theorem itoaI_any (n : Int) (h0 : -4 ≤ n) (h1 : n ≤ 99) (w : World) (ht : Tab w) :
    Calls Tryd.prog 94 #[.int .i64 n] w fun e w' => e = .returned (.string (txt (decI n))) ∧ Below w.heap.size w w' := by
  by_cases hn : n < 0
  · refine (Tryd.strconv_Itoa n (by omega) (by omega) w ht.1).mono fun e w' h => ?_
    obtain ⟨he, k, os, hw⟩ := h
    have e1 : (⟨(Lib.itoa n).toArray⟩ : ByteArray) = txt (decI n) := by
      have : n = -1 ∨ n = -2 ∨ n = -3 ∨ n = -4 := by omega
      rcases this with rfl | rfl | rfl | rfl <;> decide +kernel
    exact ⟨by rw [he, e1], hw ▸ Lib.below_grow _ w (Nat.le_refl _) k os⟩
  · obtain ⟨m, rfl⟩ := Int.eq_ofNat_of_zero_le (show 0 ≤ n by omega)
    rw [decI_nat]
    exact (itoa_any m (by omega) w).mono fun e w' ⟨he, hw⟩ => ⟨he, hw ▸ Below.refl _ _⟩
theorem l6DecI_any (n : Int) (h0 : -4 ≤ n) (h1 : n ≤ 99) (w : World) :
    Calls Tryd.prog 68 #[.int .i64 n] w fun e w' => e = .returned (.string (txt (decI n))) ∧ Below w.heap.size w w' := by
  by_cases hn : n < 0
  · obtain ⟨m, rfl⟩ : ∃ m : Nat, n = -(m : Int) := ⟨(-n).toNat, by omega⟩
    have e1 : txt (decI (-(m : Int))) = txt [45] ++ txt (dec m) := by
      unfold decI; rw [if_pos hn, txt_append]; simp
    rw [e1]
    have H := l6Dec_any m (by omega)
    have z1 := dec_sz m
    generalize txt (dec m) = D at *
    have H' := hid H
    have hq : ¬ 9223372036854775807 < 1 + D.size := by omega
    clear H e1 z1
    have tt : Below w.heap.size w w := Below.refl _ _
    go_enter Tryd.func68, Tryd.ntmps68
    go_wp2_with fail
    refine (H'.out _).mono ?_
    rintro e w1 ⟨rfl, hb⟩
    go_wp2_with fail
    go_ret
    exact ⟨rfl, hb⟩
  · obtain ⟨m, rfl⟩ := Int.eq_ofNat_of_zero_le (show 0 ≤ n by omega)
    rw [decI_nat]
    exact l6Dec_any m (by omega) w
theorem kindName_any (k : Int) (w : World) :
    Calls Tryd.prog 95 #[.int .i64 k] w fun e w' => e = .returned (.string (txt (kn k))) ∧ w = w' := by
  have hk : k = 1 ∨ k = 2 ∨ k = 3 ∨ k = 4 ∨ k = 5 ∨ ¬ (k = 1 ∨ k = 2 ∨ k = 3 ∨ k = 4 ∨ k = 5) := by omega
  rcases hk with rfl | rfl | rfl | rfl | rfl | hk
  case inr.inr.inr.inr.inr =>
    have e1 : kn k = [] := by unfold kn; (repeat' split) <;> first | rfl | omega
    rw [e1]
    have q1 : (k == 1) = false := by simp; omega
    have q2 : (k == 2) = false := by simp; omega
    have q3 : (k == 3) = false := by simp; omega
    have q4 : (k == 4) = false := by simp; omega
    have q5 : (k == 5) = false := by simp; omega
    go_enter Tryd.func95, Tryd.ntmps95
    go_wp2_with fail
    go_ret
    exact ⟨rfl, rfl⟩
  all_goals
    go_enter Tryd.func95, Tryd.ntmps95
    go_wp2_with fail
    go_ret
    exact ⟨rfl, rfl⟩
end Go.Proofs.YtcgmnpppdoadhaaDoor
