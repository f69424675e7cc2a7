/- The walk of the law FnCallForm: it returns true and writes nothing that was there. No condition. -/
import Derived.Test.YtbgpladlpkinfaaDrawCall
namespace Go.Proofs.Ytbgpladlpkinfaa
open Go.RowKit
set_option linter.unusedVariables false

theorem clOk_kind (r a b n : Int) : clOk 10 r a b n = false := by simp [clOk, inB]
theorem clOk_slot (k r a n : Int) : clOk k r a 4 n = false := by simp [clOk, inB]
theorem clOk_num (k r a b : Int) : clOk k r a b (-1) = false := by simp [clOk, inB]
theorem clOk_run (k a b n : Int) : clOk k 0 a b n = false := by simp [clOk, inB]
set_option maxHeartbeats 1000000 in
theorem fnCallForm_walk (w : World) (a : Option Addr) (len cap : Nat) (z : List Int) (hr : IsRow .u8 w a len cap z) :
    Calls Try.prog 7 #[.slice a len cap] w fun e w' => e = .returned (.bool true) ∧ Below w.heap.size w w' := by
  have t0 : Below w.heap.size w w := Below.refl _ _
  by_cases hl : 1048576 < len
  · go_enter Try.func7, Try.ntmps7
    go_wp2_with fail
    go_ret
    exact ⟨rfl, t0⟩
  · go_enter Try.func7, Try.ntmps7
    go_wp2_with fail
    refine (drawCallOk_any _ _ _ _ _ hr).mono ?_
    rintro e w1 ⟨k, r, a, b, n, rfl, t1⟩
    have z1 := t1.size
    have q1 := clOk_kind r a b n
    have q2 := clOk_slot k r a n
    have q3 := clOk_num k r a b
    have q4 := clOk_run k a b n
    cases hc : clOk k r a b n
    · go_wp2_with fail
      refine (callOk_any _ _ _ _ _ _).mono ?_
      rintro e w2 ⟨rfl, b2⟩
      have z2 := b2.size
      try simp at z2
      have z2_0 : w1.heap.size < w2.heap.size := by omega
      have t2 : Below w.heap.size w w2 := by
        refine Below.trans ?_ (b2.mono ?_)
        · (repeat (first | exact t1 | (refine Below.alloc ?_ ?_ _) | (refine Below.setCell ?_ ?_ _) | refine Below.drew ?_)); (all_goals (first | omega | (simp <;> omega)))
        · first | omega | (simp <;> omega)
      obtain ⟨c2, f2⟩ := bcell b2
      clear b2
      go_wp2_with fail
      refine (scallOk_any _ _ _ _ _ _).mono ?_
      rintro e w3 ⟨rfl, b3⟩
      have z3 := b3.size
      try simp at z3
      have z3_0 : w1.heap.size < w3.heap.size := by omega
      have t3 : Below w.heap.size w w3 := by
        refine Below.trans ?_ (b3.mono ?_)
        · (repeat (first | exact t2 | (refine Below.alloc ?_ ?_ _) | (refine Below.setCell ?_ ?_ _) | refine Below.drew ?_)); (all_goals (first | omega | (simp <;> omega)))
        · first | omega | (simp <;> omega)
      obtain ⟨c3, f3⟩ := bcell b3
      clear b3
      go_wp2_with fail
      refine (scallOk_any _ _ _ _ _ _).mono ?_
      rintro e w4 ⟨rfl, b4⟩
      have z4 := b4.size
      try simp at z4
      have z4_0 : w1.heap.size < w4.heap.size := by omega
      have t4 : Below w.heap.size w w4 := by
        refine Below.trans ?_ (b4.mono ?_)
        · (repeat (first | exact t3 | (refine Below.alloc ?_ ?_ _) | (refine Below.setCell ?_ ?_ _) | refine Below.drew ?_)); (all_goals (first | omega | (simp <;> omega)))
        · first | omega | (simp <;> omega)
      obtain ⟨c4, f4⟩ := bcell b4
      clear b4
      go_wp2_with fail
      go_ret
      exact ⟨rfl, t4⟩
    · go_wp2_with fail
      refine (callOk_any _ _ _ _ _ _).mono ?_
      rintro e w2 ⟨rfl, b2⟩
      have z2 := b2.size
      try simp at z2
      have z2_0 : w1.heap.size < w2.heap.size := by omega
      have t2 : Below w.heap.size w w2 := by
        refine Below.trans ?_ (b2.mono ?_)
        · (repeat (first | exact t1 | (refine Below.alloc ?_ ?_ _) | (refine Below.setCell ?_ ?_ _) | refine Below.drew ?_)); (all_goals (first | omega | (simp <;> omega)))
        · first | omega | (simp <;> omega)
      obtain ⟨c2, f2⟩ := bcell b2
      clear b2
      go_wp2_with fail
      refine (scallOk_any _ _ _ _ _ _).mono ?_
      rintro e w3 ⟨rfl, b3⟩
      have z3 := b3.size
      try simp at z3
      have z3_0 : w1.heap.size < w3.heap.size := by omega
      have z3_0_0 : w1.heap.size < w3.heap.size + 1 := by omega
      have z3_0_1 : w1.heap.size < w3.heap.size + 1 + 1 := by omega
      have z3_0_2 : w1.heap.size < w3.heap.size + 1 + 1 + 1 := by omega
      have t3 : Below w.heap.size w w3 := by
        refine Below.trans ?_ (b3.mono ?_)
        · (repeat (first | exact t2 | (refine Below.alloc ?_ ?_ _) | (refine Below.setCell ?_ ?_ _) | refine Below.drew ?_)); (all_goals (first | omega | (simp <;> omega)))
        · first | omega | (simp <;> omega)
      obtain ⟨c3, f3⟩ := bcell b3
      clear b3
      go_wp2_with fail
      refine (callOk_any _ _ _ _ _ _).mono ?_
      rintro e w4 ⟨rfl, b4⟩
      have z4 := b4.size
      try simp at z4
      have z4_0 : w1.heap.size < w4.heap.size := by omega
      have z4_1 : w3.heap.size < w4.heap.size := by omega
      have z4_2 : w3.heap.size + 1 < w4.heap.size := by omega
      have z4_3 : w3.heap.size + 1 + 1 < w4.heap.size := by omega
      have z4_4 : w3.heap.size + 1 + 1 + 1 < w4.heap.size := by omega
      have t4 : Below w.heap.size w w4 := by
        refine Below.trans ?_ (b4.mono ?_)
        · (repeat (first | exact t3 | (refine Below.alloc ?_ ?_ _) | (refine Below.setCell ?_ ?_ _) | refine Below.drew ?_)); (all_goals (first | omega | (simp <;> omega)))
        · first | omega | (simp <;> omega)
      obtain ⟨c4, f4⟩ := bcell b4
      clear b4
      go_wp2_with fail
      refine (callOk_any _ _ _ _ _ _).mono ?_
      rintro e w5 ⟨rfl, b5⟩
      have z5 := b5.size
      try simp at z5
      have z5_0 : w1.heap.size < w5.heap.size := by omega
      have z5_1 : w3.heap.size < w5.heap.size := by omega
      have z5_2 : w3.heap.size + 1 < w5.heap.size := by omega
      have z5_3 : w3.heap.size + 1 + 1 < w5.heap.size := by omega
      have z5_4 : w3.heap.size + 1 + 1 + 1 < w5.heap.size := by omega
      have t5 : Below w.heap.size w w5 := by
        refine Below.trans ?_ (b5.mono ?_)
        · (repeat (first | exact t4 | (refine Below.alloc ?_ ?_ _) | (refine Below.setCell ?_ ?_ _) | refine Below.drew ?_)); (all_goals (first | omega | (simp <;> omega)))
        · first | omega | (simp <;> omega)
      obtain ⟨c5, f5⟩ := bcell b5
      clear b5
      go_wp2_with fail
      refine (callOk_any _ _ _ _ _ _).mono ?_
      rintro e w6 ⟨rfl, b6⟩
      have z6 := b6.size
      try simp at z6
      have z6_0 : w1.heap.size < w6.heap.size := by omega
      have z6_1 : w3.heap.size < w6.heap.size := by omega
      have z6_2 : w3.heap.size + 1 < w6.heap.size := by omega
      have z6_3 : w3.heap.size + 1 + 1 < w6.heap.size := by omega
      have z6_4 : w3.heap.size + 1 + 1 + 1 < w6.heap.size := by omega
      have t6 : Below w.heap.size w w6 := by
        refine Below.trans ?_ (b6.mono ?_)
        · (repeat (first | exact t5 | (refine Below.alloc ?_ ?_ _) | (refine Below.setCell ?_ ?_ _) | refine Below.drew ?_)); (all_goals (first | omega | (simp <;> omega)))
        · first | omega | (simp <;> omega)
      obtain ⟨c6, f6⟩ := bcell b6
      clear b6
      go_wp2_with fail
      refine (callOk_any _ _ _ _ _ _).mono ?_
      rintro e w7 ⟨rfl, b7⟩
      have z7 := b7.size
      try simp at z7
      have z7_0 : w1.heap.size < w7.heap.size := by omega
      have z7_1 : w3.heap.size < w7.heap.size := by omega
      have z7_2 : w3.heap.size + 1 < w7.heap.size := by omega
      have z7_3 : w3.heap.size + 1 + 1 < w7.heap.size := by omega
      have z7_4 : w3.heap.size + 1 + 1 + 1 < w7.heap.size := by omega
      have t7 : Below w.heap.size w w7 := by
        refine Below.trans ?_ (b7.mono ?_)
        · (repeat (first | exact t6 | (refine Below.alloc ?_ ?_ _) | (refine Below.setCell ?_ ?_ _) | refine Below.drew ?_)); (all_goals (first | omega | (simp <;> omega)))
        · first | omega | (simp <;> omega)
      obtain ⟨c7, f7⟩ := bcell b7
      clear b7
      go_wp2_with fail
      go_ret
      exact ⟨rfl, t7⟩
end Go.Proofs.Ytbgpladlpkinfaa
