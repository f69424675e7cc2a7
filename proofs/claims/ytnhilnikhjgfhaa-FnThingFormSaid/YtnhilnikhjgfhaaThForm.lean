/- The walk of the law FnThingForm, on drawn things. No condition. -/
import Derived.Test.YtnhilnikhjgfhaaDThO
import Derived.Test.YtnhilnikhjgfhaaThg3
namespace Go.Proofs.Ytnhilnikhjgfhaa
open Go.RowKit
set_option linter.unusedVariables false
set_option linter.unusedSimpArgs false

theorem thOk_six (sec vou vers num : Int) (rs : List Rt) (zs : List Int) (tg : Int) : thOk 6 sec vou vers num rs zs tg = false := by simp [thOk, inB]
theorem thOk_v6 (kind sec vou num : Int) (rs : List Rt) (zs : List Int) (tg : Int) : thOk kind sec vou 6 num rs zs tg = false := by
  rw [Bool.eq_false_iff]; intro h; obtain ⟨h1, _⟩ := (thOk_iff _ _ _ _ _ _ _ _).1 h
  unfold Lin at h1; omega
set_option maxHeartbeats 4000000 in
theorem fnThingForm_walk (w : World) (a : Option Addr) (len cap : Nat) (z : List Int) (hr : IsRow .u8 w a len cap z) :
    Calls Try.prog 3 #[.slice a len cap] w fun e w' => e = .returned (.bool true) ∧ Below w.heap.size w w' := by
  by_cases hl : 1048576 < len
  · go_enter Try.func3, Try.ntmps3
    go_wp2_with fail
    go_ret
    exact ⟨rfl, Below.refl _ _⟩
  go_enter Try.func3, Try.ntmps3
  go_wp2_with fail
  refine (drawThingOk_any _ _ _ _ _ hr).mono ?_
  rintro e w1 ⟨⟨kind, sec, vou, vers, num, rs, zs, tg⟩, sa, qa, sc, qc, rfl, _, _, hR, hQ, tt⟩
  clear hr hl
  have CS := hid (fun u (h1 : RowR u sa rs) (h2 : RowI u qa zs) => sthingOk_any kind sec vou vers num tg sa qa rs sc zs qc u h1 h2)
  have CI := hid (fun k v u (h1 : RowR u sa rs) (h2 : RowI u qa zs) => thingOk_any k sec vou v num tg sa qa rs sc zs qc u h1 h2)
  have n6 := thOk_six sec vou vers num rs zs tg
  have n7 := thOk_v6 kind sec vou num rs zs tg
  have hA := own_new w1 (.cells #[.int .i64 kind, .int .i64 sec, .int .i64 vou, .int .i64 vers, .int .i64 num, .slice sa rs.length sc, .slice qa zs.length qc, .int .i64 tg] 28)
  go_wp2_with fail
  refine (CI.out _ _ _ (hR.below ((Below.refl _ _).alloc (Nat.le_refl _) _)) (hQ.below ((Below.refl _ _).alloc (Nat.le_refl _) _))).mono ?_
  rintro e w2 ⟨rfl, hb⟩
  replace hR := (hR.below ((Below.refl _ _).alloc (Nat.le_refl _) _)).below hb
  replace hQ := (hQ.below ((Below.refl _ _).alloc (Nat.le_refl _) _)).below hb
  have zt := tt.size
  replace tt : Below w.heap.size w w2 := Below.trans (by (have zt := tt.size); (repeat (first | with_reducible exact tt | (with_reducible refine Below.setCell ?_ ?_ _) | (with_reducible refine Below.alloc ?_ ?_ _) | with_reducible refine Below.drew ?_)); (all_goals (first | omega | (simp <;> omega)))) (hb.mono (by simp; omega))
  replace hA := own_below hb hA
  clear hb zt
  obtain ⟨cc_hA, ff_hA⟩ := own_cells hA
  go_wp2_with fail
  refine (CS.out _ hR hQ).mono ?_
  rintro e w3 ⟨rfl, hb⟩
  replace hR := hR.below hb
  replace hQ := hQ.below hb
  replace tt : Below w.heap.size w w3 := Below.trans (by (have zt := tt.size); (repeat (first | with_reducible exact tt | (with_reducible refine Below.setCell ?_ ?_ _) | (with_reducible refine Below.alloc ?_ ?_ _) | with_reducible refine Below.drew ?_)); (all_goals (first | omega | (simp <;> omega)))) (hb.mono tt.size)
  replace hA := own_below hb hA
  clear hb cc_hA ff_hA
  obtain ⟨cc_hA, ff_hA⟩ := own_cells hA
  have zA := own_lt hA
  cases e1 : thOk kind sec vou vers num rs zs tg
  · rw [e1] at CS
    go_wp2_with fail
    refine (CS.out _ hR hQ).mono ?_
    rintro e w4 ⟨rfl, hb⟩
    replace tt : Below w.heap.size w w4 := Below.trans (by (have zt := tt.size); (repeat (first | with_reducible exact tt | (with_reducible refine Below.setCell ?_ ?_ _) | (with_reducible refine Below.alloc ?_ ?_ _) | with_reducible refine Below.drew ?_)); (all_goals (first | omega | (simp <;> omega)))) (hb.mono tt.size)
    go_wp2_with fail
    go_ret
    exact ⟨rfl, tt⟩
  · obtain ⟨hL, _, _, _⟩ := (thOk_iff _ _ _ _ _ _ _ _).1 e1
    have hml := hR.len
    have hnl := hQ.len
    generalize em : rs.length = m at *
    generalize en : zs.length = n at *
    unfold Lin at hL
    have hN := own_new w3 (.cells #[.int .i64 6, .int .i64 sec, .int .i64 vou, .int .i64 vers, .int .i64 num, .slice sa m sc, .slice qa n qc, .int .i64 tg] 28)
    have ek : kind = 1 ∨ kind = 2 ∨ kind = 3 ∨ kind = 4 ∨ kind = 5 := by omega
    clear e1 CS
    rcases ek with rfl | rfl | rfl | rfl | rfl
    · obtain rfl : m = 0 := by omega
      obtain rfl : n = 0 := by omega
      obtain rfl : tg = 0 := by omega
      clear hL
      have hB : Below w3.heap.size w3 ((w3.alloc (.cells #[.int .i64 6, .int .i64 sec, .int .i64 vou, .int .i64 vers, .int .i64 num, .slice sa 0 sc, .slice qa 0 qc, .int .i64 0] 28)).alloc (.cells #[.int .i64 1, .int .i64 sec, .int .i64 vou, .int .i64 6, .int .i64 num, .slice sa 0 sc, .slice qa 0 qc, .int .i64 0] 28)) := ((Below.refl _ _).alloc (Nat.le_refl _) _).alloc (by simp) _
      have hY := own_new (w3.alloc (.cells #[.int .i64 6, .int .i64 sec, .int .i64 vou, .int .i64 vers, .int .i64 num, .slice sa 0 sc, .slice qa 0 qc, .int .i64 0] 28)) (.cells #[.int .i64 1, .int .i64 sec, .int .i64 vou, .int .i64 6, .int .i64 num, .slice sa 0 sc, .slice qa 0 qc, .int .i64 0] 28)
      replace hR := hR.below hB
      replace hQ := hQ.below hB
      go_wp2_with fail
      refine (CI.out _ _ _ hR hQ).mono ?_
      rintro e w4 ⟨rfl, hb⟩
      replace hR := hR.below hb
      replace hQ := hQ.below hb
      have zt := tt.size
      replace tt : Below w.heap.size w w4 := Below.trans (by (have zt := tt.size); (repeat (first | with_reducible exact tt | (with_reducible refine Below.setCell ?_ ?_ _) | (with_reducible refine Below.alloc ?_ ?_ _) | with_reducible refine Below.drew ?_)); (all_goals (first | omega | (simp <;> omega)))) (hb.mono (by simp; omega))
      replace hY := own_below hb hY
      simp only [World.size_alloc] at hY
      clear hb hB cc_hA ff_hA
      obtain ⟨cc_hY, ff_hY⟩ := own_cells hY
      go_wp2_with fail
      refine (CI.out _ _ _ hR hQ).mono ?_
      rintro e w5 ⟨rfl, hb⟩
      replace tt : Below w.heap.size w w5 := Below.trans (by (have zt := tt.size); (repeat (first | with_reducible exact tt | (with_reducible refine Below.setCell ?_ ?_ _) | (with_reducible refine Below.alloc ?_ ?_ _) | with_reducible refine Below.drew ?_)); (all_goals (first | omega | (simp <;> omega)))) (hb.mono tt.size)
      go_wp2_with fail
      go_ret
      exact ⟨rfl, tt⟩
    · obtain rfl : m = 4 := by omega
      obtain rfl : n = 0 := by omega
      obtain rfl : num = 0 := by omega
      obtain rfl : tg = 0 := by omega
      clear hL
      have hB : Below w3.heap.size w3 ((w3.alloc (.cells #[.int .i64 6, .int .i64 sec, .int .i64 vou, .int .i64 vers, .int .i64 0, .slice sa 4 sc, .slice qa 0 qc, .int .i64 0] 28)).alloc (.cells #[.int .i64 2, .int .i64 sec, .int .i64 vou, .int .i64 6, .int .i64 0, .slice sa 4 sc, .slice qa 0 qc, .int .i64 0] 28)) := ((Below.refl _ _).alloc (Nat.le_refl _) _).alloc (by simp) _
      have hY := own_new (w3.alloc (.cells #[.int .i64 6, .int .i64 sec, .int .i64 vou, .int .i64 vers, .int .i64 0, .slice sa 4 sc, .slice qa 0 qc, .int .i64 0] 28)) (.cells #[.int .i64 2, .int .i64 sec, .int .i64 vou, .int .i64 6, .int .i64 0, .slice sa 4 sc, .slice qa 0 qc, .int .i64 0] 28)
      replace hR := hR.below hB
      replace hQ := hQ.below hB
      go_wp2_with fail
      refine (CI.out _ _ _ hR hQ).mono ?_
      rintro e w4 ⟨rfl, hb⟩
      replace hR := hR.below hb
      replace hQ := hQ.below hb
      have zt := tt.size
      replace tt : Below w.heap.size w w4 := Below.trans (by (have zt := tt.size); (repeat (first | with_reducible exact tt | (with_reducible refine Below.setCell ?_ ?_ _) | (with_reducible refine Below.alloc ?_ ?_ _) | with_reducible refine Below.drew ?_)); (all_goals (first | omega | (simp <;> omega)))) (hb.mono (by simp; omega))
      replace hY := own_below hb hY
      simp only [World.size_alloc] at hY
      clear hb hB cc_hA ff_hA
      obtain ⟨cc_hY, ff_hY⟩ := own_cells hY
      go_wp2_with fail
      refine (CI.out _ _ _ hR hQ).mono ?_
      rintro e w5 ⟨rfl, hb⟩
      replace tt : Below w.heap.size w w5 := Below.trans (by (have zt := tt.size); (repeat (first | with_reducible exact tt | (with_reducible refine Below.setCell ?_ ?_ _) | (with_reducible refine Below.alloc ?_ ?_ _) | with_reducible refine Below.drew ?_)); (all_goals (first | omega | (simp <;> omega)))) (hb.mono tt.size)
      go_wp2_with fail
      go_ret
      exact ⟨rfl, tt⟩
    · obtain rfl : m = 4 := by omega
      obtain rfl : n = 0 := by omega
      obtain rfl : vers = 0 := by omega
      obtain rfl : tg = 0 := by omega
      clear hL
      have hB : Below w3.heap.size w3 ((w3.alloc (.cells #[.int .i64 6, .int .i64 sec, .int .i64 vou, .int .i64 0, .int .i64 num, .slice sa 4 sc, .slice qa 0 qc, .int .i64 0] 28)).alloc (.cells #[.int .i64 3, .int .i64 sec, .int .i64 vou, .int .i64 6, .int .i64 num, .slice sa 4 sc, .slice qa 0 qc, .int .i64 0] 28)) := ((Below.refl _ _).alloc (Nat.le_refl _) _).alloc (by simp) _
      have hY := own_new (w3.alloc (.cells #[.int .i64 6, .int .i64 sec, .int .i64 vou, .int .i64 0, .int .i64 num, .slice sa 4 sc, .slice qa 0 qc, .int .i64 0] 28)) (.cells #[.int .i64 3, .int .i64 sec, .int .i64 vou, .int .i64 6, .int .i64 num, .slice sa 4 sc, .slice qa 0 qc, .int .i64 0] 28)
      replace hR := hR.below hB
      replace hQ := hQ.below hB
      go_wp2_with fail
      refine (CI.out _ _ _ hR hQ).mono ?_
      rintro e w4 ⟨rfl, hb⟩
      replace hR := hR.below hb
      replace hQ := hQ.below hb
      have zt := tt.size
      replace tt : Below w.heap.size w w4 := Below.trans (by (have zt := tt.size); (repeat (first | with_reducible exact tt | (with_reducible refine Below.setCell ?_ ?_ _) | (with_reducible refine Below.alloc ?_ ?_ _) | with_reducible refine Below.drew ?_)); (all_goals (first | omega | (simp <;> omega)))) (hb.mono (by simp; omega))
      replace hY := own_below hb hY
      simp only [World.size_alloc] at hY
      clear hb hB cc_hA ff_hA
      obtain ⟨cc_hY, ff_hY⟩ := own_cells hY
      go_wp2_with fail
      refine (CI.out _ _ _ hR hQ).mono ?_
      rintro e w5 ⟨rfl, hb⟩
      replace tt : Below w.heap.size w w5 := Below.trans (by (have zt := tt.size); (repeat (first | with_reducible exact tt | (with_reducible refine Below.setCell ?_ ?_ _) | (with_reducible refine Below.alloc ?_ ?_ _) | with_reducible refine Below.drew ?_)); (all_goals (first | omega | (simp <;> omega)))) (hb.mono tt.size)
      go_wp2_with fail
      go_ret
      exact ⟨rfl, tt⟩
    · obtain rfl : m = 0 := by omega
      obtain rfl : num = 0 := by omega
      obtain rfl : tg = 0 := by omega
      clear hL
      have hB : Below w3.heap.size w3 ((w3.alloc (.cells #[.int .i64 6, .int .i64 sec, .int .i64 vou, .int .i64 vers, .int .i64 0, .slice sa 0 sc, .slice qa n qc, .int .i64 0] 28)).alloc (.cells #[.int .i64 4, .int .i64 sec, .int .i64 vou, .int .i64 6, .int .i64 0, .slice sa 0 sc, .slice qa n qc, .int .i64 0] 28)) := ((Below.refl _ _).alloc (Nat.le_refl _) _).alloc (by simp) _
      have hY := own_new (w3.alloc (.cells #[.int .i64 6, .int .i64 sec, .int .i64 vou, .int .i64 vers, .int .i64 0, .slice sa 0 sc, .slice qa n qc, .int .i64 0] 28)) (.cells #[.int .i64 4, .int .i64 sec, .int .i64 vou, .int .i64 6, .int .i64 0, .slice sa 0 sc, .slice qa n qc, .int .i64 0] 28)
      replace hR := hR.below hB
      replace hQ := hQ.below hB
      go_wp2_with fail
      refine (CI.out _ _ _ hR hQ).mono ?_
      rintro e w4 ⟨rfl, hb⟩
      replace hR := hR.below hb
      replace hQ := hQ.below hb
      have zt := tt.size
      replace tt : Below w.heap.size w w4 := Below.trans (by (have zt := tt.size); (repeat (first | with_reducible exact tt | (with_reducible refine Below.setCell ?_ ?_ _) | (with_reducible refine Below.alloc ?_ ?_ _) | with_reducible refine Below.drew ?_)); (all_goals (first | omega | (simp <;> omega)))) (hb.mono (by simp; omega))
      replace hY := own_below hb hY
      simp only [World.size_alloc] at hY
      clear hb hB cc_hA ff_hA
      obtain ⟨cc_hY, ff_hY⟩ := own_cells hY
      go_wp2_with fail
      refine (CI.out _ _ _ hR hQ).mono ?_
      rintro e w5 ⟨rfl, hb⟩
      replace tt : Below w.heap.size w w5 := Below.trans (by (have zt := tt.size); (repeat (first | with_reducible exact tt | (with_reducible refine Below.setCell ?_ ?_ _) | (with_reducible refine Below.alloc ?_ ?_ _) | with_reducible refine Below.drew ?_)); (all_goals (first | omega | (simp <;> omega)))) (hb.mono tt.size)
      go_wp2_with fail
      go_ret
      exact ⟨rfl, tt⟩
    · obtain rfl : m = 0 := by omega
      obtain rfl : n = 0 := by omega
      obtain rfl : vers = 0 := by omega
      have htg : 0 < tg := by omega
      clear hL
      have hB : Below w3.heap.size w3 ((w3.alloc (.cells #[.int .i64 6, .int .i64 sec, .int .i64 vou, .int .i64 0, .int .i64 num, .slice sa 0 sc, .slice qa 0 qc, .int .i64 tg] 28)).alloc (.cells #[.int .i64 5, .int .i64 sec, .int .i64 vou, .int .i64 6, .int .i64 num, .slice sa 0 sc, .slice qa 0 qc, .int .i64 tg] 28)) := ((Below.refl _ _).alloc (Nat.le_refl _) _).alloc (by simp) _
      have hY := own_new (w3.alloc (.cells #[.int .i64 6, .int .i64 sec, .int .i64 vou, .int .i64 0, .int .i64 num, .slice sa 0 sc, .slice qa 0 qc, .int .i64 tg] 28)) (.cells #[.int .i64 5, .int .i64 sec, .int .i64 vou, .int .i64 6, .int .i64 num, .slice sa 0 sc, .slice qa 0 qc, .int .i64 tg] 28)
      replace hR := hR.below hB
      replace hQ := hQ.below hB
      go_wp2_with fail
      refine (CI.out _ _ _ hR hQ).mono ?_
      rintro e w4 ⟨rfl, hb⟩
      replace hR := hR.below hb
      replace hQ := hQ.below hb
      have zt := tt.size
      replace tt : Below w.heap.size w w4 := Below.trans (by (have zt := tt.size); (repeat (first | with_reducible exact tt | (with_reducible refine Below.setCell ?_ ?_ _) | (with_reducible refine Below.alloc ?_ ?_ _) | with_reducible refine Below.drew ?_)); (all_goals (first | omega | (simp <;> omega)))) (hb.mono (by simp; omega))
      replace hY := own_below hb hY
      simp only [World.size_alloc] at hY
      clear hb hB cc_hA ff_hA
      obtain ⟨cc_hY, ff_hY⟩ := own_cells hY
      go_wp2_with fail
      refine (CI.out _ _ _ hR hQ).mono ?_
      rintro e w5 ⟨rfl, hb⟩
      replace tt : Below w.heap.size w w5 := Below.trans (by (have zt := tt.size); (repeat (first | with_reducible exact tt | (with_reducible refine Below.setCell ?_ ?_ _) | (with_reducible refine Below.alloc ?_ ?_ _) | with_reducible refine Below.drew ?_)); (all_goals (first | omega | (simp <;> omega)))) (hb.mono tt.size)
      go_wp2_with fail
      go_ret
      exact ⟨rfl, tt⟩
end Go.Proofs.Ytnhilnikhjgfhaa
