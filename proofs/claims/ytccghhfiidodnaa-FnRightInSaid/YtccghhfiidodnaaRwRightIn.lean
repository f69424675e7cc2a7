/- The walk of the law FnRightIn, on drawn rights. No condition. -/
import Derived.Test.YtccghhfiidodnaaDrawRgt3
import Derived.Test.YtccghhfiidodnaaRgtPure
namespace Go.Proofs.Ytccghhfiidodnaa
open Go.RowKit
set_option linter.unusedVariables false

theorem IsRow.len_le' {k : IntKind} {w : World} {a : Option Addr} {len cap : Nat} {z : List Int} (h : IsRow k w a len cap z) : len ≤ 9223372036854775807 := by
  rcases h with ⟨_, rfl, _, _⟩ | ⟨_, _, h1, h2, _⟩
  · omega
  · unfold maxLen at h2; omega
set_option maxHeartbeats 4000000 in
theorem fnRightIn_walk (w : World) (a : Option Addr) (len cap : Nat) (z : List Int) (hr : IsRow .u8 w a len cap z) :
    Calls Try.prog 9 #[.slice a len cap] w fun e w' => e = .returned (.bool true) ∧ Below w.heap.size w w' := by
  have t0 : Below w.heap.size w w := Below.refl _ _
  by_cases hl : 1048576 < len
  · go_enter Try.func9, Try.ntmps9
    go_wp2_with fail
    go_ret
    exact ⟨rfl, t0⟩
  go_enter Try.func9, Try.ntmps9
  go_wp2_with fail
  refine (drawRightIn_any _ _ _ _ _ hr).mono ?_
  rintro e w1 ⟨ta, va, ra, wa, ka, tb, vb, rb, wb, kb, rfl, tt⟩
  clear hr t0 hl
  have hA := own_alloc (own_new w1 (.cells #[.int .i64 ta, .int .i64 va, .bool ra, .bool wa, .bool ka] 25)) (.cells #[.int .i64 tb, .int .i64 vb, .bool rb, .bool wb, .bool kb] 25)
  have hB := own_new (w1.alloc (.cells #[.int .i64 ta, .int .i64 va, .bool ra, .bool wa, .bool ka] 25)) (.cells #[.int .i64 tb, .int .i64 vb, .bool rb, .bool wb, .bool kb] 25)
  simp only [World.size_alloc] at hB
  cases e1 : rgtOk ta va ra wa ka
  · have f1 : rgtInB ta va ra wa ka tb vb rb wb kb = false := by simp [rgtInB, e1]
    go_wp2_with (first | (go_at_call 13; refine (rightIn_any _ _ _ _ _ _ _ _ _ _ _).mono ?_; rintro e w' ⟨rfl, hb⟩; (try clear cc_hA ff_hA); (try clear zz_hA zy_hA); (try clear cc_hB ff_hB); (try clear zz_hB zy_hB); have zt := tt.size; (replace tt : Below w.heap.size w w' := by (refine Below.trans ?_ (hb.mono ?_)); (all_goals (repeat (first | with_reducible exact tt | (with_reducible refine Below.setCell ?_ ?_ _) | (with_reducible refine Below.alloc ?_ ?_ _) | with_reducible refine Below.drew ?_)); (all_goals (first | omega | (simp <;> omega))))); clear zt; replace hA := own_below hb (by repeat (first | exact hA | apply own_alloc)); replace hB := own_below hb (by repeat (first | exact hB | apply own_alloc)); obtain ⟨cc_hA, ff_hA⟩ := own_cells hA; have zz_hA := own_lt hA; have zy_hA := Nat.lt_add_right 1 (own_lt hA); obtain ⟨cc_hB, ff_hB⟩ := own_cells hB; have zz_hB := own_lt hB; have zy_hB := Nat.lt_add_right 1 (own_lt hB); clear hb) | (go_at_call 11; refine (srightIn_any _ _ _ _ _ _ _ _ _ _ _).mono ?_; rintro e w' ⟨rfl, hb⟩; (try clear cc_hA ff_hA); (try clear zz_hA zy_hA); (try clear cc_hB ff_hB); (try clear zz_hB zy_hB); have zt := tt.size; (replace tt : Below w.heap.size w w' := by (refine Below.trans ?_ (hb.mono ?_)); (all_goals (repeat (first | with_reducible exact tt | (with_reducible refine Below.setCell ?_ ?_ _) | (with_reducible refine Below.alloc ?_ ?_ _) | with_reducible refine Below.drew ?_)); (all_goals (first | omega | (simp <;> omega))))); clear zt; replace hA := own_below hb (by repeat (first | exact hA | apply own_alloc)); replace hB := own_below hb (by repeat (first | exact hB | apply own_alloc)); obtain ⟨cc_hA, ff_hA⟩ := own_cells hA; have zz_hA := own_lt hA; have zy_hA := Nat.lt_add_right 1 (own_lt hA); obtain ⟨cc_hB, ff_hB⟩ := own_cells hB; have zz_hB := own_lt hB; have zy_hB := Nat.lt_add_right 1 (own_lt hB); clear hb) | (go_at_call 16; refine (srightOk_any _ _ _ _ _ _).mono ?_; rintro e w' ⟨rfl, hb⟩; (try clear cc_hA ff_hA); (try clear zz_hA zy_hA); (try clear cc_hB ff_hB); (try clear zz_hB zy_hB); have zt := tt.size; (replace tt : Below w.heap.size w w' := by (refine Below.trans ?_ (hb.mono ?_)); (all_goals (repeat (first | with_reducible exact tt | (with_reducible refine Below.setCell ?_ ?_ _) | (with_reducible refine Below.alloc ?_ ?_ _) | with_reducible refine Below.drew ?_)); (all_goals (first | omega | (simp <;> omega))))); clear zt; replace hA := own_below hb (by repeat (first | exact hA | apply own_alloc)); replace hB := own_below hb (by repeat (first | exact hB | apply own_alloc)); obtain ⟨cc_hA, ff_hA⟩ := own_cells hA; have zz_hA := own_lt hA; have zy_hA := Nat.lt_add_right 1 (own_lt hA); obtain ⟨cc_hB, ff_hB⟩ := own_cells hB; have zz_hB := own_lt hB; have zy_hB := Nat.lt_add_right 1 (own_lt hB); clear hb))
    all_goals
      go_ret
      exact ⟨rfl, tt⟩
  cases e2 : rgtOk tb vb rb wb kb
  · have f1 : rgtInB ta va ra wa ka tb vb rb wb kb = false := by simp [rgtInB, e2]
    go_wp2_with (first | (go_at_call 13; refine (rightIn_any _ _ _ _ _ _ _ _ _ _ _).mono ?_; rintro e w' ⟨rfl, hb⟩; (try clear cc_hA ff_hA); (try clear zz_hA zy_hA); (try clear cc_hB ff_hB); (try clear zz_hB zy_hB); have zt := tt.size; (replace tt : Below w.heap.size w w' := by (refine Below.trans ?_ (hb.mono ?_)); (all_goals (repeat (first | with_reducible exact tt | (with_reducible refine Below.setCell ?_ ?_ _) | (with_reducible refine Below.alloc ?_ ?_ _) | with_reducible refine Below.drew ?_)); (all_goals (first | omega | (simp <;> omega))))); clear zt; replace hA := own_below hb (by repeat (first | exact hA | apply own_alloc)); replace hB := own_below hb (by repeat (first | exact hB | apply own_alloc)); obtain ⟨cc_hA, ff_hA⟩ := own_cells hA; have zz_hA := own_lt hA; have zy_hA := Nat.lt_add_right 1 (own_lt hA); obtain ⟨cc_hB, ff_hB⟩ := own_cells hB; have zz_hB := own_lt hB; have zy_hB := Nat.lt_add_right 1 (own_lt hB); clear hb) | (go_at_call 11; refine (srightIn_any _ _ _ _ _ _ _ _ _ _ _).mono ?_; rintro e w' ⟨rfl, hb⟩; (try clear cc_hA ff_hA); (try clear zz_hA zy_hA); (try clear cc_hB ff_hB); (try clear zz_hB zy_hB); have zt := tt.size; (replace tt : Below w.heap.size w w' := by (refine Below.trans ?_ (hb.mono ?_)); (all_goals (repeat (first | with_reducible exact tt | (with_reducible refine Below.setCell ?_ ?_ _) | (with_reducible refine Below.alloc ?_ ?_ _) | with_reducible refine Below.drew ?_)); (all_goals (first | omega | (simp <;> omega))))); clear zt; replace hA := own_below hb (by repeat (first | exact hA | apply own_alloc)); replace hB := own_below hb (by repeat (first | exact hB | apply own_alloc)); obtain ⟨cc_hA, ff_hA⟩ := own_cells hA; have zz_hA := own_lt hA; have zy_hA := Nat.lt_add_right 1 (own_lt hA); obtain ⟨cc_hB, ff_hB⟩ := own_cells hB; have zz_hB := own_lt hB; have zy_hB := Nat.lt_add_right 1 (own_lt hB); clear hb) | (go_at_call 16; refine (srightOk_any _ _ _ _ _ _).mono ?_; rintro e w' ⟨rfl, hb⟩; (try clear cc_hA ff_hA); (try clear zz_hA zy_hA); (try clear cc_hB ff_hB); (try clear zz_hB zy_hB); have zt := tt.size; (replace tt : Below w.heap.size w w' := by (refine Below.trans ?_ (hb.mono ?_)); (all_goals (repeat (first | with_reducible exact tt | (with_reducible refine Below.setCell ?_ ?_ _) | (with_reducible refine Below.alloc ?_ ?_ _) | with_reducible refine Below.drew ?_)); (all_goals (first | omega | (simp <;> omega))))); clear zt; replace hA := own_below hb (by repeat (first | exact hA | apply own_alloc)); replace hB := own_below hb (by repeat (first | exact hB | apply own_alloc)); obtain ⟨cc_hA, ff_hA⟩ := own_cells hA; have zz_hA := own_lt hA; have zy_hA := Nat.lt_add_right 1 (own_lt hA); obtain ⟨cc_hB, ff_hB⟩ := own_cells hB; have zz_hB := own_lt hB; have zy_hB := Nat.lt_add_right 1 (own_lt hB); clear hb))
    all_goals
      go_ret
      exact ⟨rfl, tt⟩
  have rf := in_refl e1
  have rn := in_none e1
  have rs := fun h1 h2 => in_antisymm (t1 := ta) (v1 := va) (r1 := ra) (w1 := wa) (k1 := ka) (t2 := tb) (v2 := vb) (r2 := rb) (w2 := wb) (k2 := kb) h1 h2
  by_cases E0 : ta = tb
  · subst E0
    by_cases E1 : va = vb
    · subst E1
      by_cases E2 : ra = rb
      · subst E2
        by_cases E3 : wa = wb
        · subst E3
          by_cases E4 : ka = kb
          · subst E4
            clear rs
            go_wp2_with (first | (go_at_call 13; refine (rightIn_any _ _ _ _ _ _ _ _ _ _ _).mono ?_; rintro e w' ⟨rfl, hb⟩; (try clear cc_hA ff_hA); (try clear zz_hA zy_hA); (try clear cc_hB ff_hB); (try clear zz_hB zy_hB); have zt := tt.size; (replace tt : Below w.heap.size w w' := by (refine Below.trans ?_ (hb.mono ?_)); (all_goals (repeat (first | with_reducible exact tt | (with_reducible refine Below.setCell ?_ ?_ _) | (with_reducible refine Below.alloc ?_ ?_ _) | with_reducible refine Below.drew ?_)); (all_goals (first | omega | (simp <;> omega))))); clear zt; replace hA := own_below hb (by repeat (first | exact hA | apply own_alloc)); replace hB := own_below hb (by repeat (first | exact hB | apply own_alloc)); obtain ⟨cc_hA, ff_hA⟩ := own_cells hA; have zz_hA := own_lt hA; have zy_hA := Nat.lt_add_right 1 (own_lt hA); obtain ⟨cc_hB, ff_hB⟩ := own_cells hB; have zz_hB := own_lt hB; have zy_hB := Nat.lt_add_right 1 (own_lt hB); clear hb) | (go_at_call 11; refine (srightIn_any _ _ _ _ _ _ _ _ _ _ _).mono ?_; rintro e w' ⟨rfl, hb⟩; (try clear cc_hA ff_hA); (try clear zz_hA zy_hA); (try clear cc_hB ff_hB); (try clear zz_hB zy_hB); have zt := tt.size; (replace tt : Below w.heap.size w w' := by (refine Below.trans ?_ (hb.mono ?_)); (all_goals (repeat (first | with_reducible exact tt | (with_reducible refine Below.setCell ?_ ?_ _) | (with_reducible refine Below.alloc ?_ ?_ _) | with_reducible refine Below.drew ?_)); (all_goals (first | omega | (simp <;> omega))))); clear zt; replace hA := own_below hb (by repeat (first | exact hA | apply own_alloc)); replace hB := own_below hb (by repeat (first | exact hB | apply own_alloc)); obtain ⟨cc_hA, ff_hA⟩ := own_cells hA; have zz_hA := own_lt hA; have zy_hA := Nat.lt_add_right 1 (own_lt hA); obtain ⟨cc_hB, ff_hB⟩ := own_cells hB; have zz_hB := own_lt hB; have zy_hB := Nat.lt_add_right 1 (own_lt hB); clear hb) | (go_at_call 16; refine (srightOk_any _ _ _ _ _ _).mono ?_; rintro e w' ⟨rfl, hb⟩; (try clear cc_hA ff_hA); (try clear zz_hA zy_hA); (try clear cc_hB ff_hB); (try clear zz_hB zy_hB); have zt := tt.size; (replace tt : Below w.heap.size w w' := by (refine Below.trans ?_ (hb.mono ?_)); (all_goals (repeat (first | with_reducible exact tt | (with_reducible refine Below.setCell ?_ ?_ _) | (with_reducible refine Below.alloc ?_ ?_ _) | with_reducible refine Below.drew ?_)); (all_goals (first | omega | (simp <;> omega))))); clear zt; replace hA := own_below hb (by repeat (first | exact hA | apply own_alloc)); replace hB := own_below hb (by repeat (first | exact hB | apply own_alloc)); obtain ⟨cc_hA, ff_hA⟩ := own_cells hA; have zz_hA := own_lt hA; have zy_hA := Nat.lt_add_right 1 (own_lt hA); obtain ⟨cc_hB, ff_hB⟩ := own_cells hB; have zz_hB := own_lt hB; have zy_hB := Nat.lt_add_right 1 (own_lt hB); clear hb))
            refine named (p := fun W => Code.wp _ _ _ _ W) _ ?_
            intro W hW
            (try clear cc_hA ff_hA); (try clear zz_hA zy_hA)
            (try clear cc_hB ff_hB); (try clear zz_hB zy_hB)
            have zt := tt.size
            replace tt : Below w.heap.size w W := by
              rw [← hW]
              (repeat (first | with_reducible exact tt | (with_reducible refine Below.setCell ?_ ?_ _) | (with_reducible refine Below.alloc ?_ ?_ _) | with_reducible refine Below.drew ?_)); (all_goals (first | omega | (simp <;> omega)))
            replace hA := own_eq hW (by repeat (first | exact hA | apply own_alloc))
            replace hB := own_eq hW (by repeat (first | exact hB | apply own_alloc))
            clear hW zt
            refine wp_region_quiet_below (by kernel_rfl) (by kernel_rfl) ?_
            repeat (first
              | (refine qskip rfl (fun K hK => ?_); go_simp; refine hK _ ?_; clear hK K)
              | (apply qval rfl; (case h => (intro u hu; obtain ⟨_, _⟩ := own_cells (own_below hu hA); obtain ⟨_, _⟩ := own_cells (own_below hu hB); go_simp; exact rfl)); (intro K hK; go_simp; refine hK _ ?_; clear hK K))
              | (apply qcall rfl; (case h => (intro u hu; go_simp; exact ⟨rfl, rfl⟩)); (case hc => (intro u hu; with_reducible exact Calls.in_below hu (rightIn_any _ _ _ _ _ _ _ _ _ _ _))); (intro K hK; go_simp; refine hK _ ?_; clear hK K)))
            refine wpQuiet_nil ?_
            intro w' hu
            replace tt := tt.trans (hu.mono tt.size)
            replace hA := own_below hu hA
            replace hB := own_below hu hB
            obtain ⟨cc_hA, ff_hA⟩ := own_cells hA; have zz_hA := own_lt hA; have zy_hA := Nat.lt_add_right 1 (own_lt hA)
            obtain ⟨cc_hB, ff_hB⟩ := own_cells hB; have zz_hB := own_lt hB; have zy_hB := Nat.lt_add_right 1 (own_lt hB)
            clear hu
            go_wp2_with fail
            go_ret
            exact ⟨rfl, tt⟩
          cases q1 : rgtInB ta va ra wa ka ta va ra wa kb
          · clear rs
            cases q2 : rgtInB ta va ra wa kb ta va ra wa ka
            · go_wp2_with (first | (go_at_call 13; refine (rightIn_any _ _ _ _ _ _ _ _ _ _ _).mono ?_; rintro e w' ⟨rfl, hb⟩; (try clear cc_hA ff_hA); (try clear zz_hA zy_hA); (try clear cc_hB ff_hB); (try clear zz_hB zy_hB); have zt := tt.size; (replace tt : Below w.heap.size w w' := by (refine Below.trans ?_ (hb.mono ?_)); (all_goals (repeat (first | with_reducible exact tt | (with_reducible refine Below.setCell ?_ ?_ _) | (with_reducible refine Below.alloc ?_ ?_ _) | with_reducible refine Below.drew ?_)); (all_goals (first | omega | (simp <;> omega))))); clear zt; replace hA := own_below hb (by repeat (first | exact hA | apply own_alloc)); replace hB := own_below hb (by repeat (first | exact hB | apply own_alloc)); obtain ⟨cc_hA, ff_hA⟩ := own_cells hA; have zz_hA := own_lt hA; have zy_hA := Nat.lt_add_right 1 (own_lt hA); obtain ⟨cc_hB, ff_hB⟩ := own_cells hB; have zz_hB := own_lt hB; have zy_hB := Nat.lt_add_right 1 (own_lt hB); clear hb) | (go_at_call 11; refine (srightIn_any _ _ _ _ _ _ _ _ _ _ _).mono ?_; rintro e w' ⟨rfl, hb⟩; (try clear cc_hA ff_hA); (try clear zz_hA zy_hA); (try clear cc_hB ff_hB); (try clear zz_hB zy_hB); have zt := tt.size; (replace tt : Below w.heap.size w w' := by (refine Below.trans ?_ (hb.mono ?_)); (all_goals (repeat (first | with_reducible exact tt | (with_reducible refine Below.setCell ?_ ?_ _) | (with_reducible refine Below.alloc ?_ ?_ _) | with_reducible refine Below.drew ?_)); (all_goals (first | omega | (simp <;> omega))))); clear zt; replace hA := own_below hb (by repeat (first | exact hA | apply own_alloc)); replace hB := own_below hb (by repeat (first | exact hB | apply own_alloc)); obtain ⟨cc_hA, ff_hA⟩ := own_cells hA; have zz_hA := own_lt hA; have zy_hA := Nat.lt_add_right 1 (own_lt hA); obtain ⟨cc_hB, ff_hB⟩ := own_cells hB; have zz_hB := own_lt hB; have zy_hB := Nat.lt_add_right 1 (own_lt hB); clear hb) | (go_at_call 16; refine (srightOk_any _ _ _ _ _ _).mono ?_; rintro e w' ⟨rfl, hb⟩; (try clear cc_hA ff_hA); (try clear zz_hA zy_hA); (try clear cc_hB ff_hB); (try clear zz_hB zy_hB); have zt := tt.size; (replace tt : Below w.heap.size w w' := by (refine Below.trans ?_ (hb.mono ?_)); (all_goals (repeat (first | with_reducible exact tt | (with_reducible refine Below.setCell ?_ ?_ _) | (with_reducible refine Below.alloc ?_ ?_ _) | with_reducible refine Below.drew ?_)); (all_goals (first | omega | (simp <;> omega))))); clear zt; replace hA := own_below hb (by repeat (first | exact hA | apply own_alloc)); replace hB := own_below hb (by repeat (first | exact hB | apply own_alloc)); obtain ⟨cc_hA, ff_hA⟩ := own_cells hA; have zz_hA := own_lt hA; have zy_hA := Nat.lt_add_right 1 (own_lt hA); obtain ⟨cc_hB, ff_hB⟩ := own_cells hB; have zz_hB := own_lt hB; have zy_hB := Nat.lt_add_right 1 (own_lt hB); clear hb))
              refine named (p := fun W => Code.wp _ _ _ _ W) _ ?_
              intro W hW
              (try clear cc_hA ff_hA); (try clear zz_hA zy_hA)
              (try clear cc_hB ff_hB); (try clear zz_hB zy_hB)
              have zt := tt.size
              replace tt : Below w.heap.size w W := by
                rw [← hW]
                (repeat (first | with_reducible exact tt | (with_reducible refine Below.setCell ?_ ?_ _) | (with_reducible refine Below.alloc ?_ ?_ _) | with_reducible refine Below.drew ?_)); (all_goals (first | omega | (simp <;> omega)))
              replace hA := own_eq hW (by repeat (first | exact hA | apply own_alloc))
              replace hB := own_eq hW (by repeat (first | exact hB | apply own_alloc))
              clear hW zt
              refine wp_region_quiet_below (by kernel_rfl) (by kernel_rfl) ?_
              repeat (first
                | (refine qskip rfl (fun K hK => ?_); go_simp; refine hK _ ?_; clear hK K)
                | (apply qval rfl; (case h => (intro u hu; obtain ⟨_, _⟩ := own_cells (own_below hu hA); obtain ⟨_, _⟩ := own_cells (own_below hu hB); go_simp; exact rfl)); (intro K hK; go_simp; refine hK _ ?_; clear hK K))
                | (apply qcall rfl; (case h => (intro u hu; go_simp; exact ⟨rfl, rfl⟩)); (case hc => (intro u hu; with_reducible exact Calls.in_below hu (rightIn_any _ _ _ _ _ _ _ _ _ _ _))); (intro K hK; go_simp; refine hK _ ?_; clear hK K)))
              refine wpQuiet_nil ?_
              intro w' hu
              replace tt := tt.trans (hu.mono tt.size)
              replace hA := own_below hu hA
              replace hB := own_below hu hB
              obtain ⟨cc_hA, ff_hA⟩ := own_cells hA; have zz_hA := own_lt hA; have zy_hA := Nat.lt_add_right 1 (own_lt hA)
              obtain ⟨cc_hB, ff_hB⟩ := own_cells hB; have zz_hB := own_lt hB; have zy_hB := Nat.lt_add_right 1 (own_lt hB)
              clear hu
              go_wp2_with fail
              go_ret
              exact ⟨rfl, tt⟩
            · go_wp2_with (first | (go_at_call 13; refine (rightIn_any _ _ _ _ _ _ _ _ _ _ _).mono ?_; rintro e w' ⟨rfl, hb⟩; (try clear cc_hA ff_hA); (try clear zz_hA zy_hA); (try clear cc_hB ff_hB); (try clear zz_hB zy_hB); have zt := tt.size; (replace tt : Below w.heap.size w w' := by (refine Below.trans ?_ (hb.mono ?_)); (all_goals (repeat (first | with_reducible exact tt | (with_reducible refine Below.setCell ?_ ?_ _) | (with_reducible refine Below.alloc ?_ ?_ _) | with_reducible refine Below.drew ?_)); (all_goals (first | omega | (simp <;> omega))))); clear zt; replace hA := own_below hb (by repeat (first | exact hA | apply own_alloc)); replace hB := own_below hb (by repeat (first | exact hB | apply own_alloc)); obtain ⟨cc_hA, ff_hA⟩ := own_cells hA; have zz_hA := own_lt hA; have zy_hA := Nat.lt_add_right 1 (own_lt hA); obtain ⟨cc_hB, ff_hB⟩ := own_cells hB; have zz_hB := own_lt hB; have zy_hB := Nat.lt_add_right 1 (own_lt hB); clear hb) | (go_at_call 11; refine (srightIn_any _ _ _ _ _ _ _ _ _ _ _).mono ?_; rintro e w' ⟨rfl, hb⟩; (try clear cc_hA ff_hA); (try clear zz_hA zy_hA); (try clear cc_hB ff_hB); (try clear zz_hB zy_hB); have zt := tt.size; (replace tt : Below w.heap.size w w' := by (refine Below.trans ?_ (hb.mono ?_)); (all_goals (repeat (first | with_reducible exact tt | (with_reducible refine Below.setCell ?_ ?_ _) | (with_reducible refine Below.alloc ?_ ?_ _) | with_reducible refine Below.drew ?_)); (all_goals (first | omega | (simp <;> omega))))); clear zt; replace hA := own_below hb (by repeat (first | exact hA | apply own_alloc)); replace hB := own_below hb (by repeat (first | exact hB | apply own_alloc)); obtain ⟨cc_hA, ff_hA⟩ := own_cells hA; have zz_hA := own_lt hA; have zy_hA := Nat.lt_add_right 1 (own_lt hA); obtain ⟨cc_hB, ff_hB⟩ := own_cells hB; have zz_hB := own_lt hB; have zy_hB := Nat.lt_add_right 1 (own_lt hB); clear hb) | (go_at_call 16; refine (srightOk_any _ _ _ _ _ _).mono ?_; rintro e w' ⟨rfl, hb⟩; (try clear cc_hA ff_hA); (try clear zz_hA zy_hA); (try clear cc_hB ff_hB); (try clear zz_hB zy_hB); have zt := tt.size; (replace tt : Below w.heap.size w w' := by (refine Below.trans ?_ (hb.mono ?_)); (all_goals (repeat (first | with_reducible exact tt | (with_reducible refine Below.setCell ?_ ?_ _) | (with_reducible refine Below.alloc ?_ ?_ _) | with_reducible refine Below.drew ?_)); (all_goals (first | omega | (simp <;> omega))))); clear zt; replace hA := own_below hb (by repeat (first | exact hA | apply own_alloc)); replace hB := own_below hb (by repeat (first | exact hB | apply own_alloc)); obtain ⟨cc_hA, ff_hA⟩ := own_cells hA; have zz_hA := own_lt hA; have zy_hA := Nat.lt_add_right 1 (own_lt hA); obtain ⟨cc_hB, ff_hB⟩ := own_cells hB; have zz_hB := own_lt hB; have zy_hB := Nat.lt_add_right 1 (own_lt hB); clear hb))
              refine named (p := fun W => Code.wp _ _ _ _ W) _ ?_
              intro W hW
              (try clear cc_hA ff_hA); (try clear zz_hA zy_hA)
              (try clear cc_hB ff_hB); (try clear zz_hB zy_hB)
              have zt := tt.size
              replace tt : Below w.heap.size w W := by
                rw [← hW]
                (repeat (first | with_reducible exact tt | (with_reducible refine Below.setCell ?_ ?_ _) | (with_reducible refine Below.alloc ?_ ?_ _) | with_reducible refine Below.drew ?_)); (all_goals (first | omega | (simp <;> omega)))
              replace hA := own_eq hW (by repeat (first | exact hA | apply own_alloc))
              replace hB := own_eq hW (by repeat (first | exact hB | apply own_alloc))
              clear hW zt
              refine wp_region_quiet_below (by kernel_rfl) (by kernel_rfl) ?_
              repeat (first
                | (refine qskip rfl (fun K hK => ?_); go_simp; refine hK _ ?_; clear hK K)
                | (apply qval rfl; (case h => (intro u hu; obtain ⟨_, _⟩ := own_cells (own_below hu hA); obtain ⟨_, _⟩ := own_cells (own_below hu hB); go_simp; exact rfl)); (intro K hK; go_simp; refine hK _ ?_; clear hK K))
                | (apply qcall rfl; (case h => (intro u hu; go_simp; exact ⟨rfl, rfl⟩)); (case hc => (intro u hu; with_reducible exact Calls.in_below hu (rightIn_any _ _ _ _ _ _ _ _ _ _ _))); (intro K hK; go_simp; refine hK _ ?_; clear hK K)))
              refine wpQuiet_nil ?_
              intro w' hu
              replace tt := tt.trans (hu.mono tt.size)
              replace hA := own_below hu hA
              replace hB := own_below hu hB
              obtain ⟨cc_hA, ff_hA⟩ := own_cells hA; have zz_hA := own_lt hA; have zy_hA := Nat.lt_add_right 1 (own_lt hA)
              obtain ⟨cc_hB, ff_hB⟩ := own_cells hB; have zz_hB := own_lt hB; have zy_hB := Nat.lt_add_right 1 (own_lt hB)
              clear hu
              go_wp2_with fail
              go_ret
              exact ⟨rfl, tt⟩
          have q2 : rgtInB ta va ra wa kb ta va ra wa ka = false := by
            cases q2 : rgtInB ta va ra wa kb ta va ra wa ka
            · rfl
            · exact absurd (rs q1 q2) (by simp [E4])
          clear rs
          go_wp2_with (first | (go_at_call 13; refine (rightIn_any _ _ _ _ _ _ _ _ _ _ _).mono ?_; rintro e w' ⟨rfl, hb⟩; (try clear cc_hA ff_hA); (try clear zz_hA zy_hA); (try clear cc_hB ff_hB); (try clear zz_hB zy_hB); have zt := tt.size; (replace tt : Below w.heap.size w w' := by (refine Below.trans ?_ (hb.mono ?_)); (all_goals (repeat (first | with_reducible exact tt | (with_reducible refine Below.setCell ?_ ?_ _) | (with_reducible refine Below.alloc ?_ ?_ _) | with_reducible refine Below.drew ?_)); (all_goals (first | omega | (simp <;> omega))))); clear zt; replace hA := own_below hb (by repeat (first | exact hA | apply own_alloc)); replace hB := own_below hb (by repeat (first | exact hB | apply own_alloc)); obtain ⟨cc_hA, ff_hA⟩ := own_cells hA; have zz_hA := own_lt hA; have zy_hA := Nat.lt_add_right 1 (own_lt hA); obtain ⟨cc_hB, ff_hB⟩ := own_cells hB; have zz_hB := own_lt hB; have zy_hB := Nat.lt_add_right 1 (own_lt hB); clear hb) | (go_at_call 11; refine (srightIn_any _ _ _ _ _ _ _ _ _ _ _).mono ?_; rintro e w' ⟨rfl, hb⟩; (try clear cc_hA ff_hA); (try clear zz_hA zy_hA); (try clear cc_hB ff_hB); (try clear zz_hB zy_hB); have zt := tt.size; (replace tt : Below w.heap.size w w' := by (refine Below.trans ?_ (hb.mono ?_)); (all_goals (repeat (first | with_reducible exact tt | (with_reducible refine Below.setCell ?_ ?_ _) | (with_reducible refine Below.alloc ?_ ?_ _) | with_reducible refine Below.drew ?_)); (all_goals (first | omega | (simp <;> omega))))); clear zt; replace hA := own_below hb (by repeat (first | exact hA | apply own_alloc)); replace hB := own_below hb (by repeat (first | exact hB | apply own_alloc)); obtain ⟨cc_hA, ff_hA⟩ := own_cells hA; have zz_hA := own_lt hA; have zy_hA := Nat.lt_add_right 1 (own_lt hA); obtain ⟨cc_hB, ff_hB⟩ := own_cells hB; have zz_hB := own_lt hB; have zy_hB := Nat.lt_add_right 1 (own_lt hB); clear hb) | (go_at_call 16; refine (srightOk_any _ _ _ _ _ _).mono ?_; rintro e w' ⟨rfl, hb⟩; (try clear cc_hA ff_hA); (try clear zz_hA zy_hA); (try clear cc_hB ff_hB); (try clear zz_hB zy_hB); have zt := tt.size; (replace tt : Below w.heap.size w w' := by (refine Below.trans ?_ (hb.mono ?_)); (all_goals (repeat (first | with_reducible exact tt | (with_reducible refine Below.setCell ?_ ?_ _) | (with_reducible refine Below.alloc ?_ ?_ _) | with_reducible refine Below.drew ?_)); (all_goals (first | omega | (simp <;> omega))))); clear zt; replace hA := own_below hb (by repeat (first | exact hA | apply own_alloc)); replace hB := own_below hb (by repeat (first | exact hB | apply own_alloc)); obtain ⟨cc_hA, ff_hA⟩ := own_cells hA; have zz_hA := own_lt hA; have zy_hA := Nat.lt_add_right 1 (own_lt hA); obtain ⟨cc_hB, ff_hB⟩ := own_cells hB; have zz_hB := own_lt hB; have zy_hB := Nat.lt_add_right 1 (own_lt hB); clear hb))
          refine named (p := fun W => Code.wp _ _ _ _ W) _ ?_
          intro W hW
          (try clear cc_hA ff_hA); (try clear zz_hA zy_hA)
          (try clear cc_hB ff_hB); (try clear zz_hB zy_hB)
          have zt := tt.size
          replace tt : Below w.heap.size w W := by
            rw [← hW]
            (repeat (first | with_reducible exact tt | (with_reducible refine Below.setCell ?_ ?_ _) | (with_reducible refine Below.alloc ?_ ?_ _) | with_reducible refine Below.drew ?_)); (all_goals (first | omega | (simp <;> omega)))
          replace hA := own_eq hW (by repeat (first | exact hA | apply own_alloc))
          replace hB := own_eq hW (by repeat (first | exact hB | apply own_alloc))
          clear hW zt
          refine wp_region_quiet_below (by kernel_rfl) (by kernel_rfl) ?_
          repeat (first
            | (refine qskip rfl (fun K hK => ?_); go_simp; refine hK _ ?_; clear hK K)
            | (apply qval rfl; (case h => (intro u hu; obtain ⟨_, _⟩ := own_cells (own_below hu hA); obtain ⟨_, _⟩ := own_cells (own_below hu hB); go_simp; exact rfl)); (intro K hK; go_simp; refine hK _ ?_; clear hK K))
            | (apply qcall rfl; (case h => (intro u hu; go_simp; exact ⟨rfl, rfl⟩)); (case hc => (intro u hu; with_reducible exact Calls.in_below hu (rightIn_any _ _ _ _ _ _ _ _ _ _ _))); (intro K hK; go_simp; refine hK _ ?_; clear hK K)))
          refine wpQuiet_nil ?_
          intro w' hu
          replace tt := tt.trans (hu.mono tt.size)
          replace hA := own_below hu hA
          replace hB := own_below hu hB
          obtain ⟨cc_hA, ff_hA⟩ := own_cells hA; have zz_hA := own_lt hA; have zy_hA := Nat.lt_add_right 1 (own_lt hA)
          obtain ⟨cc_hB, ff_hB⟩ := own_cells hB; have zz_hB := own_lt hB; have zy_hB := Nat.lt_add_right 1 (own_lt hB)
          clear hu
          go_wp2_with fail
          go_ret
          exact ⟨rfl, tt⟩
        cases q1 : rgtInB ta va ra wa ka ta va ra wb kb
        · clear rs
          cases q2 : rgtInB ta va ra wb kb ta va ra wa ka
          · go_wp2_with (first | (go_at_call 13; refine (rightIn_any _ _ _ _ _ _ _ _ _ _ _).mono ?_; rintro e w' ⟨rfl, hb⟩; (try clear cc_hA ff_hA); (try clear zz_hA zy_hA); (try clear cc_hB ff_hB); (try clear zz_hB zy_hB); have zt := tt.size; (replace tt : Below w.heap.size w w' := by (refine Below.trans ?_ (hb.mono ?_)); (all_goals (repeat (first | with_reducible exact tt | (with_reducible refine Below.setCell ?_ ?_ _) | (with_reducible refine Below.alloc ?_ ?_ _) | with_reducible refine Below.drew ?_)); (all_goals (first | omega | (simp <;> omega))))); clear zt; replace hA := own_below hb (by repeat (first | exact hA | apply own_alloc)); replace hB := own_below hb (by repeat (first | exact hB | apply own_alloc)); obtain ⟨cc_hA, ff_hA⟩ := own_cells hA; have zz_hA := own_lt hA; have zy_hA := Nat.lt_add_right 1 (own_lt hA); obtain ⟨cc_hB, ff_hB⟩ := own_cells hB; have zz_hB := own_lt hB; have zy_hB := Nat.lt_add_right 1 (own_lt hB); clear hb) | (go_at_call 11; refine (srightIn_any _ _ _ _ _ _ _ _ _ _ _).mono ?_; rintro e w' ⟨rfl, hb⟩; (try clear cc_hA ff_hA); (try clear zz_hA zy_hA); (try clear cc_hB ff_hB); (try clear zz_hB zy_hB); have zt := tt.size; (replace tt : Below w.heap.size w w' := by (refine Below.trans ?_ (hb.mono ?_)); (all_goals (repeat (first | with_reducible exact tt | (with_reducible refine Below.setCell ?_ ?_ _) | (with_reducible refine Below.alloc ?_ ?_ _) | with_reducible refine Below.drew ?_)); (all_goals (first | omega | (simp <;> omega))))); clear zt; replace hA := own_below hb (by repeat (first | exact hA | apply own_alloc)); replace hB := own_below hb (by repeat (first | exact hB | apply own_alloc)); obtain ⟨cc_hA, ff_hA⟩ := own_cells hA; have zz_hA := own_lt hA; have zy_hA := Nat.lt_add_right 1 (own_lt hA); obtain ⟨cc_hB, ff_hB⟩ := own_cells hB; have zz_hB := own_lt hB; have zy_hB := Nat.lt_add_right 1 (own_lt hB); clear hb) | (go_at_call 16; refine (srightOk_any _ _ _ _ _ _).mono ?_; rintro e w' ⟨rfl, hb⟩; (try clear cc_hA ff_hA); (try clear zz_hA zy_hA); (try clear cc_hB ff_hB); (try clear zz_hB zy_hB); have zt := tt.size; (replace tt : Below w.heap.size w w' := by (refine Below.trans ?_ (hb.mono ?_)); (all_goals (repeat (first | with_reducible exact tt | (with_reducible refine Below.setCell ?_ ?_ _) | (with_reducible refine Below.alloc ?_ ?_ _) | with_reducible refine Below.drew ?_)); (all_goals (first | omega | (simp <;> omega))))); clear zt; replace hA := own_below hb (by repeat (first | exact hA | apply own_alloc)); replace hB := own_below hb (by repeat (first | exact hB | apply own_alloc)); obtain ⟨cc_hA, ff_hA⟩ := own_cells hA; have zz_hA := own_lt hA; have zy_hA := Nat.lt_add_right 1 (own_lt hA); obtain ⟨cc_hB, ff_hB⟩ := own_cells hB; have zz_hB := own_lt hB; have zy_hB := Nat.lt_add_right 1 (own_lt hB); clear hb))
            refine named (p := fun W => Code.wp _ _ _ _ W) _ ?_
            intro W hW
            (try clear cc_hA ff_hA); (try clear zz_hA zy_hA)
            (try clear cc_hB ff_hB); (try clear zz_hB zy_hB)
            have zt := tt.size
            replace tt : Below w.heap.size w W := by
              rw [← hW]
              (repeat (first | with_reducible exact tt | (with_reducible refine Below.setCell ?_ ?_ _) | (with_reducible refine Below.alloc ?_ ?_ _) | with_reducible refine Below.drew ?_)); (all_goals (first | omega | (simp <;> omega)))
            replace hA := own_eq hW (by repeat (first | exact hA | apply own_alloc))
            replace hB := own_eq hW (by repeat (first | exact hB | apply own_alloc))
            clear hW zt
            refine wp_region_quiet_below (by kernel_rfl) (by kernel_rfl) ?_
            repeat (first
              | (refine qskip rfl (fun K hK => ?_); go_simp; refine hK _ ?_; clear hK K)
              | (apply qval rfl; (case h => (intro u hu; obtain ⟨_, _⟩ := own_cells (own_below hu hA); obtain ⟨_, _⟩ := own_cells (own_below hu hB); go_simp; exact rfl)); (intro K hK; go_simp; refine hK _ ?_; clear hK K))
              | (apply qcall rfl; (case h => (intro u hu; go_simp; exact ⟨rfl, rfl⟩)); (case hc => (intro u hu; with_reducible exact Calls.in_below hu (rightIn_any _ _ _ _ _ _ _ _ _ _ _))); (intro K hK; go_simp; refine hK _ ?_; clear hK K)))
            refine wpQuiet_nil ?_
            intro w' hu
            replace tt := tt.trans (hu.mono tt.size)
            replace hA := own_below hu hA
            replace hB := own_below hu hB
            obtain ⟨cc_hA, ff_hA⟩ := own_cells hA; have zz_hA := own_lt hA; have zy_hA := Nat.lt_add_right 1 (own_lt hA)
            obtain ⟨cc_hB, ff_hB⟩ := own_cells hB; have zz_hB := own_lt hB; have zy_hB := Nat.lt_add_right 1 (own_lt hB)
            clear hu
            go_wp2_with fail
            go_ret
            exact ⟨rfl, tt⟩
          · go_wp2_with (first | (go_at_call 13; refine (rightIn_any _ _ _ _ _ _ _ _ _ _ _).mono ?_; rintro e w' ⟨rfl, hb⟩; (try clear cc_hA ff_hA); (try clear zz_hA zy_hA); (try clear cc_hB ff_hB); (try clear zz_hB zy_hB); have zt := tt.size; (replace tt : Below w.heap.size w w' := by (refine Below.trans ?_ (hb.mono ?_)); (all_goals (repeat (first | with_reducible exact tt | (with_reducible refine Below.setCell ?_ ?_ _) | (with_reducible refine Below.alloc ?_ ?_ _) | with_reducible refine Below.drew ?_)); (all_goals (first | omega | (simp <;> omega))))); clear zt; replace hA := own_below hb (by repeat (first | exact hA | apply own_alloc)); replace hB := own_below hb (by repeat (first | exact hB | apply own_alloc)); obtain ⟨cc_hA, ff_hA⟩ := own_cells hA; have zz_hA := own_lt hA; have zy_hA := Nat.lt_add_right 1 (own_lt hA); obtain ⟨cc_hB, ff_hB⟩ := own_cells hB; have zz_hB := own_lt hB; have zy_hB := Nat.lt_add_right 1 (own_lt hB); clear hb) | (go_at_call 11; refine (srightIn_any _ _ _ _ _ _ _ _ _ _ _).mono ?_; rintro e w' ⟨rfl, hb⟩; (try clear cc_hA ff_hA); (try clear zz_hA zy_hA); (try clear cc_hB ff_hB); (try clear zz_hB zy_hB); have zt := tt.size; (replace tt : Below w.heap.size w w' := by (refine Below.trans ?_ (hb.mono ?_)); (all_goals (repeat (first | with_reducible exact tt | (with_reducible refine Below.setCell ?_ ?_ _) | (with_reducible refine Below.alloc ?_ ?_ _) | with_reducible refine Below.drew ?_)); (all_goals (first | omega | (simp <;> omega))))); clear zt; replace hA := own_below hb (by repeat (first | exact hA | apply own_alloc)); replace hB := own_below hb (by repeat (first | exact hB | apply own_alloc)); obtain ⟨cc_hA, ff_hA⟩ := own_cells hA; have zz_hA := own_lt hA; have zy_hA := Nat.lt_add_right 1 (own_lt hA); obtain ⟨cc_hB, ff_hB⟩ := own_cells hB; have zz_hB := own_lt hB; have zy_hB := Nat.lt_add_right 1 (own_lt hB); clear hb) | (go_at_call 16; refine (srightOk_any _ _ _ _ _ _).mono ?_; rintro e w' ⟨rfl, hb⟩; (try clear cc_hA ff_hA); (try clear zz_hA zy_hA); (try clear cc_hB ff_hB); (try clear zz_hB zy_hB); have zt := tt.size; (replace tt : Below w.heap.size w w' := by (refine Below.trans ?_ (hb.mono ?_)); (all_goals (repeat (first | with_reducible exact tt | (with_reducible refine Below.setCell ?_ ?_ _) | (with_reducible refine Below.alloc ?_ ?_ _) | with_reducible refine Below.drew ?_)); (all_goals (first | omega | (simp <;> omega))))); clear zt; replace hA := own_below hb (by repeat (first | exact hA | apply own_alloc)); replace hB := own_below hb (by repeat (first | exact hB | apply own_alloc)); obtain ⟨cc_hA, ff_hA⟩ := own_cells hA; have zz_hA := own_lt hA; have zy_hA := Nat.lt_add_right 1 (own_lt hA); obtain ⟨cc_hB, ff_hB⟩ := own_cells hB; have zz_hB := own_lt hB; have zy_hB := Nat.lt_add_right 1 (own_lt hB); clear hb))
            refine named (p := fun W => Code.wp _ _ _ _ W) _ ?_
            intro W hW
            (try clear cc_hA ff_hA); (try clear zz_hA zy_hA)
            (try clear cc_hB ff_hB); (try clear zz_hB zy_hB)
            have zt := tt.size
            replace tt : Below w.heap.size w W := by
              rw [← hW]
              (repeat (first | with_reducible exact tt | (with_reducible refine Below.setCell ?_ ?_ _) | (with_reducible refine Below.alloc ?_ ?_ _) | with_reducible refine Below.drew ?_)); (all_goals (first | omega | (simp <;> omega)))
            replace hA := own_eq hW (by repeat (first | exact hA | apply own_alloc))
            replace hB := own_eq hW (by repeat (first | exact hB | apply own_alloc))
            clear hW zt
            refine wp_region_quiet_below (by kernel_rfl) (by kernel_rfl) ?_
            repeat (first
              | (refine qskip rfl (fun K hK => ?_); go_simp; refine hK _ ?_; clear hK K)
              | (apply qval rfl; (case h => (intro u hu; obtain ⟨_, _⟩ := own_cells (own_below hu hA); obtain ⟨_, _⟩ := own_cells (own_below hu hB); go_simp; exact rfl)); (intro K hK; go_simp; refine hK _ ?_; clear hK K))
              | (apply qcall rfl; (case h => (intro u hu; go_simp; exact ⟨rfl, rfl⟩)); (case hc => (intro u hu; with_reducible exact Calls.in_below hu (rightIn_any _ _ _ _ _ _ _ _ _ _ _))); (intro K hK; go_simp; refine hK _ ?_; clear hK K)))
            refine wpQuiet_nil ?_
            intro w' hu
            replace tt := tt.trans (hu.mono tt.size)
            replace hA := own_below hu hA
            replace hB := own_below hu hB
            obtain ⟨cc_hA, ff_hA⟩ := own_cells hA; have zz_hA := own_lt hA; have zy_hA := Nat.lt_add_right 1 (own_lt hA)
            obtain ⟨cc_hB, ff_hB⟩ := own_cells hB; have zz_hB := own_lt hB; have zy_hB := Nat.lt_add_right 1 (own_lt hB)
            clear hu
            go_wp2_with fail
            go_ret
            exact ⟨rfl, tt⟩
        have q2 : rgtInB ta va ra wb kb ta va ra wa ka = false := by
          cases q2 : rgtInB ta va ra wb kb ta va ra wa ka
          · rfl
          · exact absurd (rs q1 q2) (by simp [E3])
        clear rs
        go_wp2_with (first | (go_at_call 13; refine (rightIn_any _ _ _ _ _ _ _ _ _ _ _).mono ?_; rintro e w' ⟨rfl, hb⟩; (try clear cc_hA ff_hA); (try clear zz_hA zy_hA); (try clear cc_hB ff_hB); (try clear zz_hB zy_hB); have zt := tt.size; (replace tt : Below w.heap.size w w' := by (refine Below.trans ?_ (hb.mono ?_)); (all_goals (repeat (first | with_reducible exact tt | (with_reducible refine Below.setCell ?_ ?_ _) | (with_reducible refine Below.alloc ?_ ?_ _) | with_reducible refine Below.drew ?_)); (all_goals (first | omega | (simp <;> omega))))); clear zt; replace hA := own_below hb (by repeat (first | exact hA | apply own_alloc)); replace hB := own_below hb (by repeat (first | exact hB | apply own_alloc)); obtain ⟨cc_hA, ff_hA⟩ := own_cells hA; have zz_hA := own_lt hA; have zy_hA := Nat.lt_add_right 1 (own_lt hA); obtain ⟨cc_hB, ff_hB⟩ := own_cells hB; have zz_hB := own_lt hB; have zy_hB := Nat.lt_add_right 1 (own_lt hB); clear hb) | (go_at_call 11; refine (srightIn_any _ _ _ _ _ _ _ _ _ _ _).mono ?_; rintro e w' ⟨rfl, hb⟩; (try clear cc_hA ff_hA); (try clear zz_hA zy_hA); (try clear cc_hB ff_hB); (try clear zz_hB zy_hB); have zt := tt.size; (replace tt : Below w.heap.size w w' := by (refine Below.trans ?_ (hb.mono ?_)); (all_goals (repeat (first | with_reducible exact tt | (with_reducible refine Below.setCell ?_ ?_ _) | (with_reducible refine Below.alloc ?_ ?_ _) | with_reducible refine Below.drew ?_)); (all_goals (first | omega | (simp <;> omega))))); clear zt; replace hA := own_below hb (by repeat (first | exact hA | apply own_alloc)); replace hB := own_below hb (by repeat (first | exact hB | apply own_alloc)); obtain ⟨cc_hA, ff_hA⟩ := own_cells hA; have zz_hA := own_lt hA; have zy_hA := Nat.lt_add_right 1 (own_lt hA); obtain ⟨cc_hB, ff_hB⟩ := own_cells hB; have zz_hB := own_lt hB; have zy_hB := Nat.lt_add_right 1 (own_lt hB); clear hb) | (go_at_call 16; refine (srightOk_any _ _ _ _ _ _).mono ?_; rintro e w' ⟨rfl, hb⟩; (try clear cc_hA ff_hA); (try clear zz_hA zy_hA); (try clear cc_hB ff_hB); (try clear zz_hB zy_hB); have zt := tt.size; (replace tt : Below w.heap.size w w' := by (refine Below.trans ?_ (hb.mono ?_)); (all_goals (repeat (first | with_reducible exact tt | (with_reducible refine Below.setCell ?_ ?_ _) | (with_reducible refine Below.alloc ?_ ?_ _) | with_reducible refine Below.drew ?_)); (all_goals (first | omega | (simp <;> omega))))); clear zt; replace hA := own_below hb (by repeat (first | exact hA | apply own_alloc)); replace hB := own_below hb (by repeat (first | exact hB | apply own_alloc)); obtain ⟨cc_hA, ff_hA⟩ := own_cells hA; have zz_hA := own_lt hA; have zy_hA := Nat.lt_add_right 1 (own_lt hA); obtain ⟨cc_hB, ff_hB⟩ := own_cells hB; have zz_hB := own_lt hB; have zy_hB := Nat.lt_add_right 1 (own_lt hB); clear hb))
        refine named (p := fun W => Code.wp _ _ _ _ W) _ ?_
        intro W hW
        (try clear cc_hA ff_hA); (try clear zz_hA zy_hA)
        (try clear cc_hB ff_hB); (try clear zz_hB zy_hB)
        have zt := tt.size
        replace tt : Below w.heap.size w W := by
          rw [← hW]
          (repeat (first | with_reducible exact tt | (with_reducible refine Below.setCell ?_ ?_ _) | (with_reducible refine Below.alloc ?_ ?_ _) | with_reducible refine Below.drew ?_)); (all_goals (first | omega | (simp <;> omega)))
        replace hA := own_eq hW (by repeat (first | exact hA | apply own_alloc))
        replace hB := own_eq hW (by repeat (first | exact hB | apply own_alloc))
        clear hW zt
        refine wp_region_quiet_below (by kernel_rfl) (by kernel_rfl) ?_
        repeat (first
          | (refine qskip rfl (fun K hK => ?_); go_simp; refine hK _ ?_; clear hK K)
          | (apply qval rfl; (case h => (intro u hu; obtain ⟨_, _⟩ := own_cells (own_below hu hA); obtain ⟨_, _⟩ := own_cells (own_below hu hB); go_simp; exact rfl)); (intro K hK; go_simp; refine hK _ ?_; clear hK K))
          | (apply qcall rfl; (case h => (intro u hu; go_simp; exact ⟨rfl, rfl⟩)); (case hc => (intro u hu; with_reducible exact Calls.in_below hu (rightIn_any _ _ _ _ _ _ _ _ _ _ _))); (intro K hK; go_simp; refine hK _ ?_; clear hK K)))
        refine wpQuiet_nil ?_
        intro w' hu
        replace tt := tt.trans (hu.mono tt.size)
        replace hA := own_below hu hA
        replace hB := own_below hu hB
        obtain ⟨cc_hA, ff_hA⟩ := own_cells hA; have zz_hA := own_lt hA; have zy_hA := Nat.lt_add_right 1 (own_lt hA)
        obtain ⟨cc_hB, ff_hB⟩ := own_cells hB; have zz_hB := own_lt hB; have zy_hB := Nat.lt_add_right 1 (own_lt hB)
        clear hu
        go_wp2_with fail
        go_ret
        exact ⟨rfl, tt⟩
      cases q1 : rgtInB ta va ra wa ka ta va rb wb kb
      · clear rs
        cases q2 : rgtInB ta va rb wb kb ta va ra wa ka
        · go_wp2_with (first | (go_at_call 13; refine (rightIn_any _ _ _ _ _ _ _ _ _ _ _).mono ?_; rintro e w' ⟨rfl, hb⟩; (try clear cc_hA ff_hA); (try clear zz_hA zy_hA); (try clear cc_hB ff_hB); (try clear zz_hB zy_hB); have zt := tt.size; (replace tt : Below w.heap.size w w' := by (refine Below.trans ?_ (hb.mono ?_)); (all_goals (repeat (first | with_reducible exact tt | (with_reducible refine Below.setCell ?_ ?_ _) | (with_reducible refine Below.alloc ?_ ?_ _) | with_reducible refine Below.drew ?_)); (all_goals (first | omega | (simp <;> omega))))); clear zt; replace hA := own_below hb (by repeat (first | exact hA | apply own_alloc)); replace hB := own_below hb (by repeat (first | exact hB | apply own_alloc)); obtain ⟨cc_hA, ff_hA⟩ := own_cells hA; have zz_hA := own_lt hA; have zy_hA := Nat.lt_add_right 1 (own_lt hA); obtain ⟨cc_hB, ff_hB⟩ := own_cells hB; have zz_hB := own_lt hB; have zy_hB := Nat.lt_add_right 1 (own_lt hB); clear hb) | (go_at_call 11; refine (srightIn_any _ _ _ _ _ _ _ _ _ _ _).mono ?_; rintro e w' ⟨rfl, hb⟩; (try clear cc_hA ff_hA); (try clear zz_hA zy_hA); (try clear cc_hB ff_hB); (try clear zz_hB zy_hB); have zt := tt.size; (replace tt : Below w.heap.size w w' := by (refine Below.trans ?_ (hb.mono ?_)); (all_goals (repeat (first | with_reducible exact tt | (with_reducible refine Below.setCell ?_ ?_ _) | (with_reducible refine Below.alloc ?_ ?_ _) | with_reducible refine Below.drew ?_)); (all_goals (first | omega | (simp <;> omega))))); clear zt; replace hA := own_below hb (by repeat (first | exact hA | apply own_alloc)); replace hB := own_below hb (by repeat (first | exact hB | apply own_alloc)); obtain ⟨cc_hA, ff_hA⟩ := own_cells hA; have zz_hA := own_lt hA; have zy_hA := Nat.lt_add_right 1 (own_lt hA); obtain ⟨cc_hB, ff_hB⟩ := own_cells hB; have zz_hB := own_lt hB; have zy_hB := Nat.lt_add_right 1 (own_lt hB); clear hb) | (go_at_call 16; refine (srightOk_any _ _ _ _ _ _).mono ?_; rintro e w' ⟨rfl, hb⟩; (try clear cc_hA ff_hA); (try clear zz_hA zy_hA); (try clear cc_hB ff_hB); (try clear zz_hB zy_hB); have zt := tt.size; (replace tt : Below w.heap.size w w' := by (refine Below.trans ?_ (hb.mono ?_)); (all_goals (repeat (first | with_reducible exact tt | (with_reducible refine Below.setCell ?_ ?_ _) | (with_reducible refine Below.alloc ?_ ?_ _) | with_reducible refine Below.drew ?_)); (all_goals (first | omega | (simp <;> omega))))); clear zt; replace hA := own_below hb (by repeat (first | exact hA | apply own_alloc)); replace hB := own_below hb (by repeat (first | exact hB | apply own_alloc)); obtain ⟨cc_hA, ff_hA⟩ := own_cells hA; have zz_hA := own_lt hA; have zy_hA := Nat.lt_add_right 1 (own_lt hA); obtain ⟨cc_hB, ff_hB⟩ := own_cells hB; have zz_hB := own_lt hB; have zy_hB := Nat.lt_add_right 1 (own_lt hB); clear hb))
          refine named (p := fun W => Code.wp _ _ _ _ W) _ ?_
          intro W hW
          (try clear cc_hA ff_hA); (try clear zz_hA zy_hA)
          (try clear cc_hB ff_hB); (try clear zz_hB zy_hB)
          have zt := tt.size
          replace tt : Below w.heap.size w W := by
            rw [← hW]
            (repeat (first | with_reducible exact tt | (with_reducible refine Below.setCell ?_ ?_ _) | (with_reducible refine Below.alloc ?_ ?_ _) | with_reducible refine Below.drew ?_)); (all_goals (first | omega | (simp <;> omega)))
          replace hA := own_eq hW (by repeat (first | exact hA | apply own_alloc))
          replace hB := own_eq hW (by repeat (first | exact hB | apply own_alloc))
          clear hW zt
          refine wp_region_quiet_below (by kernel_rfl) (by kernel_rfl) ?_
          repeat (first
            | (refine qskip rfl (fun K hK => ?_); go_simp; refine hK _ ?_; clear hK K)
            | (apply qval rfl; (case h => (intro u hu; obtain ⟨_, _⟩ := own_cells (own_below hu hA); obtain ⟨_, _⟩ := own_cells (own_below hu hB); go_simp; exact rfl)); (intro K hK; go_simp; refine hK _ ?_; clear hK K))
            | (apply qcall rfl; (case h => (intro u hu; go_simp; exact ⟨rfl, rfl⟩)); (case hc => (intro u hu; with_reducible exact Calls.in_below hu (rightIn_any _ _ _ _ _ _ _ _ _ _ _))); (intro K hK; go_simp; refine hK _ ?_; clear hK K)))
          refine wpQuiet_nil ?_
          intro w' hu
          replace tt := tt.trans (hu.mono tt.size)
          replace hA := own_below hu hA
          replace hB := own_below hu hB
          obtain ⟨cc_hA, ff_hA⟩ := own_cells hA; have zz_hA := own_lt hA; have zy_hA := Nat.lt_add_right 1 (own_lt hA)
          obtain ⟨cc_hB, ff_hB⟩ := own_cells hB; have zz_hB := own_lt hB; have zy_hB := Nat.lt_add_right 1 (own_lt hB)
          clear hu
          go_wp2_with fail
          go_ret
          exact ⟨rfl, tt⟩
        · go_wp2_with (first | (go_at_call 13; refine (rightIn_any _ _ _ _ _ _ _ _ _ _ _).mono ?_; rintro e w' ⟨rfl, hb⟩; (try clear cc_hA ff_hA); (try clear zz_hA zy_hA); (try clear cc_hB ff_hB); (try clear zz_hB zy_hB); have zt := tt.size; (replace tt : Below w.heap.size w w' := by (refine Below.trans ?_ (hb.mono ?_)); (all_goals (repeat (first | with_reducible exact tt | (with_reducible refine Below.setCell ?_ ?_ _) | (with_reducible refine Below.alloc ?_ ?_ _) | with_reducible refine Below.drew ?_)); (all_goals (first | omega | (simp <;> omega))))); clear zt; replace hA := own_below hb (by repeat (first | exact hA | apply own_alloc)); replace hB := own_below hb (by repeat (first | exact hB | apply own_alloc)); obtain ⟨cc_hA, ff_hA⟩ := own_cells hA; have zz_hA := own_lt hA; have zy_hA := Nat.lt_add_right 1 (own_lt hA); obtain ⟨cc_hB, ff_hB⟩ := own_cells hB; have zz_hB := own_lt hB; have zy_hB := Nat.lt_add_right 1 (own_lt hB); clear hb) | (go_at_call 11; refine (srightIn_any _ _ _ _ _ _ _ _ _ _ _).mono ?_; rintro e w' ⟨rfl, hb⟩; (try clear cc_hA ff_hA); (try clear zz_hA zy_hA); (try clear cc_hB ff_hB); (try clear zz_hB zy_hB); have zt := tt.size; (replace tt : Below w.heap.size w w' := by (refine Below.trans ?_ (hb.mono ?_)); (all_goals (repeat (first | with_reducible exact tt | (with_reducible refine Below.setCell ?_ ?_ _) | (with_reducible refine Below.alloc ?_ ?_ _) | with_reducible refine Below.drew ?_)); (all_goals (first | omega | (simp <;> omega))))); clear zt; replace hA := own_below hb (by repeat (first | exact hA | apply own_alloc)); replace hB := own_below hb (by repeat (first | exact hB | apply own_alloc)); obtain ⟨cc_hA, ff_hA⟩ := own_cells hA; have zz_hA := own_lt hA; have zy_hA := Nat.lt_add_right 1 (own_lt hA); obtain ⟨cc_hB, ff_hB⟩ := own_cells hB; have zz_hB := own_lt hB; have zy_hB := Nat.lt_add_right 1 (own_lt hB); clear hb) | (go_at_call 16; refine (srightOk_any _ _ _ _ _ _).mono ?_; rintro e w' ⟨rfl, hb⟩; (try clear cc_hA ff_hA); (try clear zz_hA zy_hA); (try clear cc_hB ff_hB); (try clear zz_hB zy_hB); have zt := tt.size; (replace tt : Below w.heap.size w w' := by (refine Below.trans ?_ (hb.mono ?_)); (all_goals (repeat (first | with_reducible exact tt | (with_reducible refine Below.setCell ?_ ?_ _) | (with_reducible refine Below.alloc ?_ ?_ _) | with_reducible refine Below.drew ?_)); (all_goals (first | omega | (simp <;> omega))))); clear zt; replace hA := own_below hb (by repeat (first | exact hA | apply own_alloc)); replace hB := own_below hb (by repeat (first | exact hB | apply own_alloc)); obtain ⟨cc_hA, ff_hA⟩ := own_cells hA; have zz_hA := own_lt hA; have zy_hA := Nat.lt_add_right 1 (own_lt hA); obtain ⟨cc_hB, ff_hB⟩ := own_cells hB; have zz_hB := own_lt hB; have zy_hB := Nat.lt_add_right 1 (own_lt hB); clear hb))
          refine named (p := fun W => Code.wp _ _ _ _ W) _ ?_
          intro W hW
          (try clear cc_hA ff_hA); (try clear zz_hA zy_hA)
          (try clear cc_hB ff_hB); (try clear zz_hB zy_hB)
          have zt := tt.size
          replace tt : Below w.heap.size w W := by
            rw [← hW]
            (repeat (first | with_reducible exact tt | (with_reducible refine Below.setCell ?_ ?_ _) | (with_reducible refine Below.alloc ?_ ?_ _) | with_reducible refine Below.drew ?_)); (all_goals (first | omega | (simp <;> omega)))
          replace hA := own_eq hW (by repeat (first | exact hA | apply own_alloc))
          replace hB := own_eq hW (by repeat (first | exact hB | apply own_alloc))
          clear hW zt
          refine wp_region_quiet_below (by kernel_rfl) (by kernel_rfl) ?_
          repeat (first
            | (refine qskip rfl (fun K hK => ?_); go_simp; refine hK _ ?_; clear hK K)
            | (apply qval rfl; (case h => (intro u hu; obtain ⟨_, _⟩ := own_cells (own_below hu hA); obtain ⟨_, _⟩ := own_cells (own_below hu hB); go_simp; exact rfl)); (intro K hK; go_simp; refine hK _ ?_; clear hK K))
            | (apply qcall rfl; (case h => (intro u hu; go_simp; exact ⟨rfl, rfl⟩)); (case hc => (intro u hu; with_reducible exact Calls.in_below hu (rightIn_any _ _ _ _ _ _ _ _ _ _ _))); (intro K hK; go_simp; refine hK _ ?_; clear hK K)))
          refine wpQuiet_nil ?_
          intro w' hu
          replace tt := tt.trans (hu.mono tt.size)
          replace hA := own_below hu hA
          replace hB := own_below hu hB
          obtain ⟨cc_hA, ff_hA⟩ := own_cells hA; have zz_hA := own_lt hA; have zy_hA := Nat.lt_add_right 1 (own_lt hA)
          obtain ⟨cc_hB, ff_hB⟩ := own_cells hB; have zz_hB := own_lt hB; have zy_hB := Nat.lt_add_right 1 (own_lt hB)
          clear hu
          go_wp2_with fail
          go_ret
          exact ⟨rfl, tt⟩
      have q2 : rgtInB ta va rb wb kb ta va ra wa ka = false := by
        cases q2 : rgtInB ta va rb wb kb ta va ra wa ka
        · rfl
        · exact absurd (rs q1 q2) (by simp [E2])
      clear rs
      go_wp2_with (first | (go_at_call 13; refine (rightIn_any _ _ _ _ _ _ _ _ _ _ _).mono ?_; rintro e w' ⟨rfl, hb⟩; (try clear cc_hA ff_hA); (try clear zz_hA zy_hA); (try clear cc_hB ff_hB); (try clear zz_hB zy_hB); have zt := tt.size; (replace tt : Below w.heap.size w w' := by (refine Below.trans ?_ (hb.mono ?_)); (all_goals (repeat (first | with_reducible exact tt | (with_reducible refine Below.setCell ?_ ?_ _) | (with_reducible refine Below.alloc ?_ ?_ _) | with_reducible refine Below.drew ?_)); (all_goals (first | omega | (simp <;> omega))))); clear zt; replace hA := own_below hb (by repeat (first | exact hA | apply own_alloc)); replace hB := own_below hb (by repeat (first | exact hB | apply own_alloc)); obtain ⟨cc_hA, ff_hA⟩ := own_cells hA; have zz_hA := own_lt hA; have zy_hA := Nat.lt_add_right 1 (own_lt hA); obtain ⟨cc_hB, ff_hB⟩ := own_cells hB; have zz_hB := own_lt hB; have zy_hB := Nat.lt_add_right 1 (own_lt hB); clear hb) | (go_at_call 11; refine (srightIn_any _ _ _ _ _ _ _ _ _ _ _).mono ?_; rintro e w' ⟨rfl, hb⟩; (try clear cc_hA ff_hA); (try clear zz_hA zy_hA); (try clear cc_hB ff_hB); (try clear zz_hB zy_hB); have zt := tt.size; (replace tt : Below w.heap.size w w' := by (refine Below.trans ?_ (hb.mono ?_)); (all_goals (repeat (first | with_reducible exact tt | (with_reducible refine Below.setCell ?_ ?_ _) | (with_reducible refine Below.alloc ?_ ?_ _) | with_reducible refine Below.drew ?_)); (all_goals (first | omega | (simp <;> omega))))); clear zt; replace hA := own_below hb (by repeat (first | exact hA | apply own_alloc)); replace hB := own_below hb (by repeat (first | exact hB | apply own_alloc)); obtain ⟨cc_hA, ff_hA⟩ := own_cells hA; have zz_hA := own_lt hA; have zy_hA := Nat.lt_add_right 1 (own_lt hA); obtain ⟨cc_hB, ff_hB⟩ := own_cells hB; have zz_hB := own_lt hB; have zy_hB := Nat.lt_add_right 1 (own_lt hB); clear hb) | (go_at_call 16; refine (srightOk_any _ _ _ _ _ _).mono ?_; rintro e w' ⟨rfl, hb⟩; (try clear cc_hA ff_hA); (try clear zz_hA zy_hA); (try clear cc_hB ff_hB); (try clear zz_hB zy_hB); have zt := tt.size; (replace tt : Below w.heap.size w w' := by (refine Below.trans ?_ (hb.mono ?_)); (all_goals (repeat (first | with_reducible exact tt | (with_reducible refine Below.setCell ?_ ?_ _) | (with_reducible refine Below.alloc ?_ ?_ _) | with_reducible refine Below.drew ?_)); (all_goals (first | omega | (simp <;> omega))))); clear zt; replace hA := own_below hb (by repeat (first | exact hA | apply own_alloc)); replace hB := own_below hb (by repeat (first | exact hB | apply own_alloc)); obtain ⟨cc_hA, ff_hA⟩ := own_cells hA; have zz_hA := own_lt hA; have zy_hA := Nat.lt_add_right 1 (own_lt hA); obtain ⟨cc_hB, ff_hB⟩ := own_cells hB; have zz_hB := own_lt hB; have zy_hB := Nat.lt_add_right 1 (own_lt hB); clear hb))
      refine named (p := fun W => Code.wp _ _ _ _ W) _ ?_
      intro W hW
      (try clear cc_hA ff_hA); (try clear zz_hA zy_hA)
      (try clear cc_hB ff_hB); (try clear zz_hB zy_hB)
      have zt := tt.size
      replace tt : Below w.heap.size w W := by
        rw [← hW]
        (repeat (first | with_reducible exact tt | (with_reducible refine Below.setCell ?_ ?_ _) | (with_reducible refine Below.alloc ?_ ?_ _) | with_reducible refine Below.drew ?_)); (all_goals (first | omega | (simp <;> omega)))
      replace hA := own_eq hW (by repeat (first | exact hA | apply own_alloc))
      replace hB := own_eq hW (by repeat (first | exact hB | apply own_alloc))
      clear hW zt
      refine wp_region_quiet_below (by kernel_rfl) (by kernel_rfl) ?_
      repeat (first
        | (refine qskip rfl (fun K hK => ?_); go_simp; refine hK _ ?_; clear hK K)
        | (apply qval rfl; (case h => (intro u hu; obtain ⟨_, _⟩ := own_cells (own_below hu hA); obtain ⟨_, _⟩ := own_cells (own_below hu hB); go_simp; exact rfl)); (intro K hK; go_simp; refine hK _ ?_; clear hK K))
        | (apply qcall rfl; (case h => (intro u hu; go_simp; exact ⟨rfl, rfl⟩)); (case hc => (intro u hu; with_reducible exact Calls.in_below hu (rightIn_any _ _ _ _ _ _ _ _ _ _ _))); (intro K hK; go_simp; refine hK _ ?_; clear hK K)))
      refine wpQuiet_nil ?_
      intro w' hu
      replace tt := tt.trans (hu.mono tt.size)
      replace hA := own_below hu hA
      replace hB := own_below hu hB
      obtain ⟨cc_hA, ff_hA⟩ := own_cells hA; have zz_hA := own_lt hA; have zy_hA := Nat.lt_add_right 1 (own_lt hA)
      obtain ⟨cc_hB, ff_hB⟩ := own_cells hB; have zz_hB := own_lt hB; have zy_hB := Nat.lt_add_right 1 (own_lt hB)
      clear hu
      go_wp2_with fail
      go_ret
      exact ⟨rfl, tt⟩
    cases q1 : rgtInB ta va ra wa ka ta vb rb wb kb
    · clear rs
      cases q2 : rgtInB ta vb rb wb kb ta va ra wa ka
      · go_wp2_with (first | (go_at_call 13; refine (rightIn_any _ _ _ _ _ _ _ _ _ _ _).mono ?_; rintro e w' ⟨rfl, hb⟩; (try clear cc_hA ff_hA); (try clear zz_hA zy_hA); (try clear cc_hB ff_hB); (try clear zz_hB zy_hB); have zt := tt.size; (replace tt : Below w.heap.size w w' := by (refine Below.trans ?_ (hb.mono ?_)); (all_goals (repeat (first | with_reducible exact tt | (with_reducible refine Below.setCell ?_ ?_ _) | (with_reducible refine Below.alloc ?_ ?_ _) | with_reducible refine Below.drew ?_)); (all_goals (first | omega | (simp <;> omega))))); clear zt; replace hA := own_below hb (by repeat (first | exact hA | apply own_alloc)); replace hB := own_below hb (by repeat (first | exact hB | apply own_alloc)); obtain ⟨cc_hA, ff_hA⟩ := own_cells hA; have zz_hA := own_lt hA; have zy_hA := Nat.lt_add_right 1 (own_lt hA); obtain ⟨cc_hB, ff_hB⟩ := own_cells hB; have zz_hB := own_lt hB; have zy_hB := Nat.lt_add_right 1 (own_lt hB); clear hb) | (go_at_call 11; refine (srightIn_any _ _ _ _ _ _ _ _ _ _ _).mono ?_; rintro e w' ⟨rfl, hb⟩; (try clear cc_hA ff_hA); (try clear zz_hA zy_hA); (try clear cc_hB ff_hB); (try clear zz_hB zy_hB); have zt := tt.size; (replace tt : Below w.heap.size w w' := by (refine Below.trans ?_ (hb.mono ?_)); (all_goals (repeat (first | with_reducible exact tt | (with_reducible refine Below.setCell ?_ ?_ _) | (with_reducible refine Below.alloc ?_ ?_ _) | with_reducible refine Below.drew ?_)); (all_goals (first | omega | (simp <;> omega))))); clear zt; replace hA := own_below hb (by repeat (first | exact hA | apply own_alloc)); replace hB := own_below hb (by repeat (first | exact hB | apply own_alloc)); obtain ⟨cc_hA, ff_hA⟩ := own_cells hA; have zz_hA := own_lt hA; have zy_hA := Nat.lt_add_right 1 (own_lt hA); obtain ⟨cc_hB, ff_hB⟩ := own_cells hB; have zz_hB := own_lt hB; have zy_hB := Nat.lt_add_right 1 (own_lt hB); clear hb) | (go_at_call 16; refine (srightOk_any _ _ _ _ _ _).mono ?_; rintro e w' ⟨rfl, hb⟩; (try clear cc_hA ff_hA); (try clear zz_hA zy_hA); (try clear cc_hB ff_hB); (try clear zz_hB zy_hB); have zt := tt.size; (replace tt : Below w.heap.size w w' := by (refine Below.trans ?_ (hb.mono ?_)); (all_goals (repeat (first | with_reducible exact tt | (with_reducible refine Below.setCell ?_ ?_ _) | (with_reducible refine Below.alloc ?_ ?_ _) | with_reducible refine Below.drew ?_)); (all_goals (first | omega | (simp <;> omega))))); clear zt; replace hA := own_below hb (by repeat (first | exact hA | apply own_alloc)); replace hB := own_below hb (by repeat (first | exact hB | apply own_alloc)); obtain ⟨cc_hA, ff_hA⟩ := own_cells hA; have zz_hA := own_lt hA; have zy_hA := Nat.lt_add_right 1 (own_lt hA); obtain ⟨cc_hB, ff_hB⟩ := own_cells hB; have zz_hB := own_lt hB; have zy_hB := Nat.lt_add_right 1 (own_lt hB); clear hb))
        refine named (p := fun W => Code.wp _ _ _ _ W) _ ?_
        intro W hW
        (try clear cc_hA ff_hA); (try clear zz_hA zy_hA)
        (try clear cc_hB ff_hB); (try clear zz_hB zy_hB)
        have zt := tt.size
        replace tt : Below w.heap.size w W := by
          rw [← hW]
          (repeat (first | with_reducible exact tt | (with_reducible refine Below.setCell ?_ ?_ _) | (with_reducible refine Below.alloc ?_ ?_ _) | with_reducible refine Below.drew ?_)); (all_goals (first | omega | (simp <;> omega)))
        replace hA := own_eq hW (by repeat (first | exact hA | apply own_alloc))
        replace hB := own_eq hW (by repeat (first | exact hB | apply own_alloc))
        clear hW zt
        refine wp_region_quiet_below (by kernel_rfl) (by kernel_rfl) ?_
        repeat (first
          | (refine qskip rfl (fun K hK => ?_); go_simp; refine hK _ ?_; clear hK K)
          | (apply qval rfl; (case h => (intro u hu; obtain ⟨_, _⟩ := own_cells (own_below hu hA); obtain ⟨_, _⟩ := own_cells (own_below hu hB); go_simp; exact rfl)); (intro K hK; go_simp; refine hK _ ?_; clear hK K))
          | (apply qcall rfl; (case h => (intro u hu; go_simp; exact ⟨rfl, rfl⟩)); (case hc => (intro u hu; with_reducible exact Calls.in_below hu (rightIn_any _ _ _ _ _ _ _ _ _ _ _))); (intro K hK; go_simp; refine hK _ ?_; clear hK K)))
        refine wpQuiet_nil ?_
        intro w' hu
        replace tt := tt.trans (hu.mono tt.size)
        replace hA := own_below hu hA
        replace hB := own_below hu hB
        obtain ⟨cc_hA, ff_hA⟩ := own_cells hA; have zz_hA := own_lt hA; have zy_hA := Nat.lt_add_right 1 (own_lt hA)
        obtain ⟨cc_hB, ff_hB⟩ := own_cells hB; have zz_hB := own_lt hB; have zy_hB := Nat.lt_add_right 1 (own_lt hB)
        clear hu
        go_wp2_with fail
        go_ret
        exact ⟨rfl, tt⟩
      · go_wp2_with (first | (go_at_call 13; refine (rightIn_any _ _ _ _ _ _ _ _ _ _ _).mono ?_; rintro e w' ⟨rfl, hb⟩; (try clear cc_hA ff_hA); (try clear zz_hA zy_hA); (try clear cc_hB ff_hB); (try clear zz_hB zy_hB); have zt := tt.size; (replace tt : Below w.heap.size w w' := by (refine Below.trans ?_ (hb.mono ?_)); (all_goals (repeat (first | with_reducible exact tt | (with_reducible refine Below.setCell ?_ ?_ _) | (with_reducible refine Below.alloc ?_ ?_ _) | with_reducible refine Below.drew ?_)); (all_goals (first | omega | (simp <;> omega))))); clear zt; replace hA := own_below hb (by repeat (first | exact hA | apply own_alloc)); replace hB := own_below hb (by repeat (first | exact hB | apply own_alloc)); obtain ⟨cc_hA, ff_hA⟩ := own_cells hA; have zz_hA := own_lt hA; have zy_hA := Nat.lt_add_right 1 (own_lt hA); obtain ⟨cc_hB, ff_hB⟩ := own_cells hB; have zz_hB := own_lt hB; have zy_hB := Nat.lt_add_right 1 (own_lt hB); clear hb) | (go_at_call 11; refine (srightIn_any _ _ _ _ _ _ _ _ _ _ _).mono ?_; rintro e w' ⟨rfl, hb⟩; (try clear cc_hA ff_hA); (try clear zz_hA zy_hA); (try clear cc_hB ff_hB); (try clear zz_hB zy_hB); have zt := tt.size; (replace tt : Below w.heap.size w w' := by (refine Below.trans ?_ (hb.mono ?_)); (all_goals (repeat (first | with_reducible exact tt | (with_reducible refine Below.setCell ?_ ?_ _) | (with_reducible refine Below.alloc ?_ ?_ _) | with_reducible refine Below.drew ?_)); (all_goals (first | omega | (simp <;> omega))))); clear zt; replace hA := own_below hb (by repeat (first | exact hA | apply own_alloc)); replace hB := own_below hb (by repeat (first | exact hB | apply own_alloc)); obtain ⟨cc_hA, ff_hA⟩ := own_cells hA; have zz_hA := own_lt hA; have zy_hA := Nat.lt_add_right 1 (own_lt hA); obtain ⟨cc_hB, ff_hB⟩ := own_cells hB; have zz_hB := own_lt hB; have zy_hB := Nat.lt_add_right 1 (own_lt hB); clear hb) | (go_at_call 16; refine (srightOk_any _ _ _ _ _ _).mono ?_; rintro e w' ⟨rfl, hb⟩; (try clear cc_hA ff_hA); (try clear zz_hA zy_hA); (try clear cc_hB ff_hB); (try clear zz_hB zy_hB); have zt := tt.size; (replace tt : Below w.heap.size w w' := by (refine Below.trans ?_ (hb.mono ?_)); (all_goals (repeat (first | with_reducible exact tt | (with_reducible refine Below.setCell ?_ ?_ _) | (with_reducible refine Below.alloc ?_ ?_ _) | with_reducible refine Below.drew ?_)); (all_goals (first | omega | (simp <;> omega))))); clear zt; replace hA := own_below hb (by repeat (first | exact hA | apply own_alloc)); replace hB := own_below hb (by repeat (first | exact hB | apply own_alloc)); obtain ⟨cc_hA, ff_hA⟩ := own_cells hA; have zz_hA := own_lt hA; have zy_hA := Nat.lt_add_right 1 (own_lt hA); obtain ⟨cc_hB, ff_hB⟩ := own_cells hB; have zz_hB := own_lt hB; have zy_hB := Nat.lt_add_right 1 (own_lt hB); clear hb))
        refine named (p := fun W => Code.wp _ _ _ _ W) _ ?_
        intro W hW
        (try clear cc_hA ff_hA); (try clear zz_hA zy_hA)
        (try clear cc_hB ff_hB); (try clear zz_hB zy_hB)
        have zt := tt.size
        replace tt : Below w.heap.size w W := by
          rw [← hW]
          (repeat (first | with_reducible exact tt | (with_reducible refine Below.setCell ?_ ?_ _) | (with_reducible refine Below.alloc ?_ ?_ _) | with_reducible refine Below.drew ?_)); (all_goals (first | omega | (simp <;> omega)))
        replace hA := own_eq hW (by repeat (first | exact hA | apply own_alloc))
        replace hB := own_eq hW (by repeat (first | exact hB | apply own_alloc))
        clear hW zt
        refine wp_region_quiet_below (by kernel_rfl) (by kernel_rfl) ?_
        repeat (first
          | (refine qskip rfl (fun K hK => ?_); go_simp; refine hK _ ?_; clear hK K)
          | (apply qval rfl; (case h => (intro u hu; obtain ⟨_, _⟩ := own_cells (own_below hu hA); obtain ⟨_, _⟩ := own_cells (own_below hu hB); go_simp; exact rfl)); (intro K hK; go_simp; refine hK _ ?_; clear hK K))
          | (apply qcall rfl; (case h => (intro u hu; go_simp; exact ⟨rfl, rfl⟩)); (case hc => (intro u hu; with_reducible exact Calls.in_below hu (rightIn_any _ _ _ _ _ _ _ _ _ _ _))); (intro K hK; go_simp; refine hK _ ?_; clear hK K)))
        refine wpQuiet_nil ?_
        intro w' hu
        replace tt := tt.trans (hu.mono tt.size)
        replace hA := own_below hu hA
        replace hB := own_below hu hB
        obtain ⟨cc_hA, ff_hA⟩ := own_cells hA; have zz_hA := own_lt hA; have zy_hA := Nat.lt_add_right 1 (own_lt hA)
        obtain ⟨cc_hB, ff_hB⟩ := own_cells hB; have zz_hB := own_lt hB; have zy_hB := Nat.lt_add_right 1 (own_lt hB)
        clear hu
        go_wp2_with fail
        go_ret
        exact ⟨rfl, tt⟩
    have q2 : rgtInB ta vb rb wb kb ta va ra wa ka = false := by
      cases q2 : rgtInB ta vb rb wb kb ta va ra wa ka
      · rfl
      · exact absurd (rs q1 q2) (by simp [E1])
    clear rs
    go_wp2_with (first | (go_at_call 13; refine (rightIn_any _ _ _ _ _ _ _ _ _ _ _).mono ?_; rintro e w' ⟨rfl, hb⟩; (try clear cc_hA ff_hA); (try clear zz_hA zy_hA); (try clear cc_hB ff_hB); (try clear zz_hB zy_hB); have zt := tt.size; (replace tt : Below w.heap.size w w' := by (refine Below.trans ?_ (hb.mono ?_)); (all_goals (repeat (first | with_reducible exact tt | (with_reducible refine Below.setCell ?_ ?_ _) | (with_reducible refine Below.alloc ?_ ?_ _) | with_reducible refine Below.drew ?_)); (all_goals (first | omega | (simp <;> omega))))); clear zt; replace hA := own_below hb (by repeat (first | exact hA | apply own_alloc)); replace hB := own_below hb (by repeat (first | exact hB | apply own_alloc)); obtain ⟨cc_hA, ff_hA⟩ := own_cells hA; have zz_hA := own_lt hA; have zy_hA := Nat.lt_add_right 1 (own_lt hA); obtain ⟨cc_hB, ff_hB⟩ := own_cells hB; have zz_hB := own_lt hB; have zy_hB := Nat.lt_add_right 1 (own_lt hB); clear hb) | (go_at_call 11; refine (srightIn_any _ _ _ _ _ _ _ _ _ _ _).mono ?_; rintro e w' ⟨rfl, hb⟩; (try clear cc_hA ff_hA); (try clear zz_hA zy_hA); (try clear cc_hB ff_hB); (try clear zz_hB zy_hB); have zt := tt.size; (replace tt : Below w.heap.size w w' := by (refine Below.trans ?_ (hb.mono ?_)); (all_goals (repeat (first | with_reducible exact tt | (with_reducible refine Below.setCell ?_ ?_ _) | (with_reducible refine Below.alloc ?_ ?_ _) | with_reducible refine Below.drew ?_)); (all_goals (first | omega | (simp <;> omega))))); clear zt; replace hA := own_below hb (by repeat (first | exact hA | apply own_alloc)); replace hB := own_below hb (by repeat (first | exact hB | apply own_alloc)); obtain ⟨cc_hA, ff_hA⟩ := own_cells hA; have zz_hA := own_lt hA; have zy_hA := Nat.lt_add_right 1 (own_lt hA); obtain ⟨cc_hB, ff_hB⟩ := own_cells hB; have zz_hB := own_lt hB; have zy_hB := Nat.lt_add_right 1 (own_lt hB); clear hb) | (go_at_call 16; refine (srightOk_any _ _ _ _ _ _).mono ?_; rintro e w' ⟨rfl, hb⟩; (try clear cc_hA ff_hA); (try clear zz_hA zy_hA); (try clear cc_hB ff_hB); (try clear zz_hB zy_hB); have zt := tt.size; (replace tt : Below w.heap.size w w' := by (refine Below.trans ?_ (hb.mono ?_)); (all_goals (repeat (first | with_reducible exact tt | (with_reducible refine Below.setCell ?_ ?_ _) | (with_reducible refine Below.alloc ?_ ?_ _) | with_reducible refine Below.drew ?_)); (all_goals (first | omega | (simp <;> omega))))); clear zt; replace hA := own_below hb (by repeat (first | exact hA | apply own_alloc)); replace hB := own_below hb (by repeat (first | exact hB | apply own_alloc)); obtain ⟨cc_hA, ff_hA⟩ := own_cells hA; have zz_hA := own_lt hA; have zy_hA := Nat.lt_add_right 1 (own_lt hA); obtain ⟨cc_hB, ff_hB⟩ := own_cells hB; have zz_hB := own_lt hB; have zy_hB := Nat.lt_add_right 1 (own_lt hB); clear hb))
    refine named (p := fun W => Code.wp _ _ _ _ W) _ ?_
    intro W hW
    (try clear cc_hA ff_hA); (try clear zz_hA zy_hA)
    (try clear cc_hB ff_hB); (try clear zz_hB zy_hB)
    have zt := tt.size
    replace tt : Below w.heap.size w W := by
      rw [← hW]
      (repeat (first | with_reducible exact tt | (with_reducible refine Below.setCell ?_ ?_ _) | (with_reducible refine Below.alloc ?_ ?_ _) | with_reducible refine Below.drew ?_)); (all_goals (first | omega | (simp <;> omega)))
    replace hA := own_eq hW (by repeat (first | exact hA | apply own_alloc))
    replace hB := own_eq hW (by repeat (first | exact hB | apply own_alloc))
    clear hW zt
    refine wp_region_quiet_below (by kernel_rfl) (by kernel_rfl) ?_
    repeat (first
      | (refine qskip rfl (fun K hK => ?_); go_simp; refine hK _ ?_; clear hK K)
      | (apply qval rfl; (case h => (intro u hu; obtain ⟨_, _⟩ := own_cells (own_below hu hA); obtain ⟨_, _⟩ := own_cells (own_below hu hB); go_simp; exact rfl)); (intro K hK; go_simp; refine hK _ ?_; clear hK K))
      | (apply qcall rfl; (case h => (intro u hu; go_simp; exact ⟨rfl, rfl⟩)); (case hc => (intro u hu; with_reducible exact Calls.in_below hu (rightIn_any _ _ _ _ _ _ _ _ _ _ _))); (intro K hK; go_simp; refine hK _ ?_; clear hK K)))
    refine wpQuiet_nil ?_
    intro w' hu
    replace tt := tt.trans (hu.mono tt.size)
    replace hA := own_below hu hA
    replace hB := own_below hu hB
    obtain ⟨cc_hA, ff_hA⟩ := own_cells hA; have zz_hA := own_lt hA; have zy_hA := Nat.lt_add_right 1 (own_lt hA)
    obtain ⟨cc_hB, ff_hB⟩ := own_cells hB; have zz_hB := own_lt hB; have zy_hB := Nat.lt_add_right 1 (own_lt hB)
    clear hu
    go_wp2_with fail
    go_ret
    exact ⟨rfl, tt⟩
  cases q1 : rgtInB ta va ra wa ka tb vb rb wb kb
  · clear rs
    cases q2 : rgtInB tb vb rb wb kb ta va ra wa ka
    · go_wp2_with (first | (go_at_call 13; refine (rightIn_any _ _ _ _ _ _ _ _ _ _ _).mono ?_; rintro e w' ⟨rfl, hb⟩; (try clear cc_hA ff_hA); (try clear zz_hA zy_hA); (try clear cc_hB ff_hB); (try clear zz_hB zy_hB); have zt := tt.size; (replace tt : Below w.heap.size w w' := by (refine Below.trans ?_ (hb.mono ?_)); (all_goals (repeat (first | with_reducible exact tt | (with_reducible refine Below.setCell ?_ ?_ _) | (with_reducible refine Below.alloc ?_ ?_ _) | with_reducible refine Below.drew ?_)); (all_goals (first | omega | (simp <;> omega))))); clear zt; replace hA := own_below hb (by repeat (first | exact hA | apply own_alloc)); replace hB := own_below hb (by repeat (first | exact hB | apply own_alloc)); obtain ⟨cc_hA, ff_hA⟩ := own_cells hA; have zz_hA := own_lt hA; have zy_hA := Nat.lt_add_right 1 (own_lt hA); obtain ⟨cc_hB, ff_hB⟩ := own_cells hB; have zz_hB := own_lt hB; have zy_hB := Nat.lt_add_right 1 (own_lt hB); clear hb) | (go_at_call 11; refine (srightIn_any _ _ _ _ _ _ _ _ _ _ _).mono ?_; rintro e w' ⟨rfl, hb⟩; (try clear cc_hA ff_hA); (try clear zz_hA zy_hA); (try clear cc_hB ff_hB); (try clear zz_hB zy_hB); have zt := tt.size; (replace tt : Below w.heap.size w w' := by (refine Below.trans ?_ (hb.mono ?_)); (all_goals (repeat (first | with_reducible exact tt | (with_reducible refine Below.setCell ?_ ?_ _) | (with_reducible refine Below.alloc ?_ ?_ _) | with_reducible refine Below.drew ?_)); (all_goals (first | omega | (simp <;> omega))))); clear zt; replace hA := own_below hb (by repeat (first | exact hA | apply own_alloc)); replace hB := own_below hb (by repeat (first | exact hB | apply own_alloc)); obtain ⟨cc_hA, ff_hA⟩ := own_cells hA; have zz_hA := own_lt hA; have zy_hA := Nat.lt_add_right 1 (own_lt hA); obtain ⟨cc_hB, ff_hB⟩ := own_cells hB; have zz_hB := own_lt hB; have zy_hB := Nat.lt_add_right 1 (own_lt hB); clear hb) | (go_at_call 16; refine (srightOk_any _ _ _ _ _ _).mono ?_; rintro e w' ⟨rfl, hb⟩; (try clear cc_hA ff_hA); (try clear zz_hA zy_hA); (try clear cc_hB ff_hB); (try clear zz_hB zy_hB); have zt := tt.size; (replace tt : Below w.heap.size w w' := by (refine Below.trans ?_ (hb.mono ?_)); (all_goals (repeat (first | with_reducible exact tt | (with_reducible refine Below.setCell ?_ ?_ _) | (with_reducible refine Below.alloc ?_ ?_ _) | with_reducible refine Below.drew ?_)); (all_goals (first | omega | (simp <;> omega))))); clear zt; replace hA := own_below hb (by repeat (first | exact hA | apply own_alloc)); replace hB := own_below hb (by repeat (first | exact hB | apply own_alloc)); obtain ⟨cc_hA, ff_hA⟩ := own_cells hA; have zz_hA := own_lt hA; have zy_hA := Nat.lt_add_right 1 (own_lt hA); obtain ⟨cc_hB, ff_hB⟩ := own_cells hB; have zz_hB := own_lt hB; have zy_hB := Nat.lt_add_right 1 (own_lt hB); clear hb))
      refine named (p := fun W => Code.wp _ _ _ _ W) _ ?_
      intro W hW
      (try clear cc_hA ff_hA); (try clear zz_hA zy_hA)
      (try clear cc_hB ff_hB); (try clear zz_hB zy_hB)
      have zt := tt.size
      replace tt : Below w.heap.size w W := by
        rw [← hW]
        (repeat (first | with_reducible exact tt | (with_reducible refine Below.setCell ?_ ?_ _) | (with_reducible refine Below.alloc ?_ ?_ _) | with_reducible refine Below.drew ?_)); (all_goals (first | omega | (simp <;> omega)))
      replace hA := own_eq hW (by repeat (first | exact hA | apply own_alloc))
      replace hB := own_eq hW (by repeat (first | exact hB | apply own_alloc))
      clear hW zt
      refine wp_region_quiet_below (by kernel_rfl) (by kernel_rfl) ?_
      repeat (first
        | (refine qskip rfl (fun K hK => ?_); go_simp; refine hK _ ?_; clear hK K)
        | (apply qval rfl; (case h => (intro u hu; obtain ⟨_, _⟩ := own_cells (own_below hu hA); obtain ⟨_, _⟩ := own_cells (own_below hu hB); go_simp; exact rfl)); (intro K hK; go_simp; refine hK _ ?_; clear hK K))
        | (apply qcall rfl; (case h => (intro u hu; go_simp; exact ⟨rfl, rfl⟩)); (case hc => (intro u hu; with_reducible exact Calls.in_below hu (rightIn_any _ _ _ _ _ _ _ _ _ _ _))); (intro K hK; go_simp; refine hK _ ?_; clear hK K)))
      refine wpQuiet_nil ?_
      intro w' hu
      replace tt := tt.trans (hu.mono tt.size)
      replace hA := own_below hu hA
      replace hB := own_below hu hB
      obtain ⟨cc_hA, ff_hA⟩ := own_cells hA; have zz_hA := own_lt hA; have zy_hA := Nat.lt_add_right 1 (own_lt hA)
      obtain ⟨cc_hB, ff_hB⟩ := own_cells hB; have zz_hB := own_lt hB; have zy_hB := Nat.lt_add_right 1 (own_lt hB)
      clear hu
      go_wp2_with fail
      go_ret
      exact ⟨rfl, tt⟩
    · go_wp2_with (first | (go_at_call 13; refine (rightIn_any _ _ _ _ _ _ _ _ _ _ _).mono ?_; rintro e w' ⟨rfl, hb⟩; (try clear cc_hA ff_hA); (try clear zz_hA zy_hA); (try clear cc_hB ff_hB); (try clear zz_hB zy_hB); have zt := tt.size; (replace tt : Below w.heap.size w w' := by (refine Below.trans ?_ (hb.mono ?_)); (all_goals (repeat (first | with_reducible exact tt | (with_reducible refine Below.setCell ?_ ?_ _) | (with_reducible refine Below.alloc ?_ ?_ _) | with_reducible refine Below.drew ?_)); (all_goals (first | omega | (simp <;> omega))))); clear zt; replace hA := own_below hb (by repeat (first | exact hA | apply own_alloc)); replace hB := own_below hb (by repeat (first | exact hB | apply own_alloc)); obtain ⟨cc_hA, ff_hA⟩ := own_cells hA; have zz_hA := own_lt hA; have zy_hA := Nat.lt_add_right 1 (own_lt hA); obtain ⟨cc_hB, ff_hB⟩ := own_cells hB; have zz_hB := own_lt hB; have zy_hB := Nat.lt_add_right 1 (own_lt hB); clear hb) | (go_at_call 11; refine (srightIn_any _ _ _ _ _ _ _ _ _ _ _).mono ?_; rintro e w' ⟨rfl, hb⟩; (try clear cc_hA ff_hA); (try clear zz_hA zy_hA); (try clear cc_hB ff_hB); (try clear zz_hB zy_hB); have zt := tt.size; (replace tt : Below w.heap.size w w' := by (refine Below.trans ?_ (hb.mono ?_)); (all_goals (repeat (first | with_reducible exact tt | (with_reducible refine Below.setCell ?_ ?_ _) | (with_reducible refine Below.alloc ?_ ?_ _) | with_reducible refine Below.drew ?_)); (all_goals (first | omega | (simp <;> omega))))); clear zt; replace hA := own_below hb (by repeat (first | exact hA | apply own_alloc)); replace hB := own_below hb (by repeat (first | exact hB | apply own_alloc)); obtain ⟨cc_hA, ff_hA⟩ := own_cells hA; have zz_hA := own_lt hA; have zy_hA := Nat.lt_add_right 1 (own_lt hA); obtain ⟨cc_hB, ff_hB⟩ := own_cells hB; have zz_hB := own_lt hB; have zy_hB := Nat.lt_add_right 1 (own_lt hB); clear hb) | (go_at_call 16; refine (srightOk_any _ _ _ _ _ _).mono ?_; rintro e w' ⟨rfl, hb⟩; (try clear cc_hA ff_hA); (try clear zz_hA zy_hA); (try clear cc_hB ff_hB); (try clear zz_hB zy_hB); have zt := tt.size; (replace tt : Below w.heap.size w w' := by (refine Below.trans ?_ (hb.mono ?_)); (all_goals (repeat (first | with_reducible exact tt | (with_reducible refine Below.setCell ?_ ?_ _) | (with_reducible refine Below.alloc ?_ ?_ _) | with_reducible refine Below.drew ?_)); (all_goals (first | omega | (simp <;> omega))))); clear zt; replace hA := own_below hb (by repeat (first | exact hA | apply own_alloc)); replace hB := own_below hb (by repeat (first | exact hB | apply own_alloc)); obtain ⟨cc_hA, ff_hA⟩ := own_cells hA; have zz_hA := own_lt hA; have zy_hA := Nat.lt_add_right 1 (own_lt hA); obtain ⟨cc_hB, ff_hB⟩ := own_cells hB; have zz_hB := own_lt hB; have zy_hB := Nat.lt_add_right 1 (own_lt hB); clear hb))
      refine named (p := fun W => Code.wp _ _ _ _ W) _ ?_
      intro W hW
      (try clear cc_hA ff_hA); (try clear zz_hA zy_hA)
      (try clear cc_hB ff_hB); (try clear zz_hB zy_hB)
      have zt := tt.size
      replace tt : Below w.heap.size w W := by
        rw [← hW]
        (repeat (first | with_reducible exact tt | (with_reducible refine Below.setCell ?_ ?_ _) | (with_reducible refine Below.alloc ?_ ?_ _) | with_reducible refine Below.drew ?_)); (all_goals (first | omega | (simp <;> omega)))
      replace hA := own_eq hW (by repeat (first | exact hA | apply own_alloc))
      replace hB := own_eq hW (by repeat (first | exact hB | apply own_alloc))
      clear hW zt
      refine wp_region_quiet_below (by kernel_rfl) (by kernel_rfl) ?_
      repeat (first
        | (refine qskip rfl (fun K hK => ?_); go_simp; refine hK _ ?_; clear hK K)
        | (apply qval rfl; (case h => (intro u hu; obtain ⟨_, _⟩ := own_cells (own_below hu hA); obtain ⟨_, _⟩ := own_cells (own_below hu hB); go_simp; exact rfl)); (intro K hK; go_simp; refine hK _ ?_; clear hK K))
        | (apply qcall rfl; (case h => (intro u hu; go_simp; exact ⟨rfl, rfl⟩)); (case hc => (intro u hu; with_reducible exact Calls.in_below hu (rightIn_any _ _ _ _ _ _ _ _ _ _ _))); (intro K hK; go_simp; refine hK _ ?_; clear hK K)))
      refine wpQuiet_nil ?_
      intro w' hu
      replace tt := tt.trans (hu.mono tt.size)
      replace hA := own_below hu hA
      replace hB := own_below hu hB
      obtain ⟨cc_hA, ff_hA⟩ := own_cells hA; have zz_hA := own_lt hA; have zy_hA := Nat.lt_add_right 1 (own_lt hA)
      obtain ⟨cc_hB, ff_hB⟩ := own_cells hB; have zz_hB := own_lt hB; have zy_hB := Nat.lt_add_right 1 (own_lt hB)
      clear hu
      go_wp2_with fail
      go_ret
      exact ⟨rfl, tt⟩
  have q2 : rgtInB tb vb rb wb kb ta va ra wa ka = false := by
    cases q2 : rgtInB tb vb rb wb kb ta va ra wa ka
    · rfl
    · exact absurd (rs q1 q2) (by simp [E0])
  clear rs
  go_wp2_with (first | (go_at_call 13; refine (rightIn_any _ _ _ _ _ _ _ _ _ _ _).mono ?_; rintro e w' ⟨rfl, hb⟩; (try clear cc_hA ff_hA); (try clear zz_hA zy_hA); (try clear cc_hB ff_hB); (try clear zz_hB zy_hB); have zt := tt.size; (replace tt : Below w.heap.size w w' := by (refine Below.trans ?_ (hb.mono ?_)); (all_goals (repeat (first | with_reducible exact tt | (with_reducible refine Below.setCell ?_ ?_ _) | (with_reducible refine Below.alloc ?_ ?_ _) | with_reducible refine Below.drew ?_)); (all_goals (first | omega | (simp <;> omega))))); clear zt; replace hA := own_below hb (by repeat (first | exact hA | apply own_alloc)); replace hB := own_below hb (by repeat (first | exact hB | apply own_alloc)); obtain ⟨cc_hA, ff_hA⟩ := own_cells hA; have zz_hA := own_lt hA; have zy_hA := Nat.lt_add_right 1 (own_lt hA); obtain ⟨cc_hB, ff_hB⟩ := own_cells hB; have zz_hB := own_lt hB; have zy_hB := Nat.lt_add_right 1 (own_lt hB); clear hb) | (go_at_call 11; refine (srightIn_any _ _ _ _ _ _ _ _ _ _ _).mono ?_; rintro e w' ⟨rfl, hb⟩; (try clear cc_hA ff_hA); (try clear zz_hA zy_hA); (try clear cc_hB ff_hB); (try clear zz_hB zy_hB); have zt := tt.size; (replace tt : Below w.heap.size w w' := by (refine Below.trans ?_ (hb.mono ?_)); (all_goals (repeat (first | with_reducible exact tt | (with_reducible refine Below.setCell ?_ ?_ _) | (with_reducible refine Below.alloc ?_ ?_ _) | with_reducible refine Below.drew ?_)); (all_goals (first | omega | (simp <;> omega))))); clear zt; replace hA := own_below hb (by repeat (first | exact hA | apply own_alloc)); replace hB := own_below hb (by repeat (first | exact hB | apply own_alloc)); obtain ⟨cc_hA, ff_hA⟩ := own_cells hA; have zz_hA := own_lt hA; have zy_hA := Nat.lt_add_right 1 (own_lt hA); obtain ⟨cc_hB, ff_hB⟩ := own_cells hB; have zz_hB := own_lt hB; have zy_hB := Nat.lt_add_right 1 (own_lt hB); clear hb) | (go_at_call 16; refine (srightOk_any _ _ _ _ _ _).mono ?_; rintro e w' ⟨rfl, hb⟩; (try clear cc_hA ff_hA); (try clear zz_hA zy_hA); (try clear cc_hB ff_hB); (try clear zz_hB zy_hB); have zt := tt.size; (replace tt : Below w.heap.size w w' := by (refine Below.trans ?_ (hb.mono ?_)); (all_goals (repeat (first | with_reducible exact tt | (with_reducible refine Below.setCell ?_ ?_ _) | (with_reducible refine Below.alloc ?_ ?_ _) | with_reducible refine Below.drew ?_)); (all_goals (first | omega | (simp <;> omega))))); clear zt; replace hA := own_below hb (by repeat (first | exact hA | apply own_alloc)); replace hB := own_below hb (by repeat (first | exact hB | apply own_alloc)); obtain ⟨cc_hA, ff_hA⟩ := own_cells hA; have zz_hA := own_lt hA; have zy_hA := Nat.lt_add_right 1 (own_lt hA); obtain ⟨cc_hB, ff_hB⟩ := own_cells hB; have zz_hB := own_lt hB; have zy_hB := Nat.lt_add_right 1 (own_lt hB); clear hb))
  refine named (p := fun W => Code.wp _ _ _ _ W) _ ?_
  intro W hW
  (try clear cc_hA ff_hA); (try clear zz_hA zy_hA)
  (try clear cc_hB ff_hB); (try clear zz_hB zy_hB)
  have zt := tt.size
  replace tt : Below w.heap.size w W := by
    rw [← hW]
    (repeat (first | with_reducible exact tt | (with_reducible refine Below.setCell ?_ ?_ _) | (with_reducible refine Below.alloc ?_ ?_ _) | with_reducible refine Below.drew ?_)); (all_goals (first | omega | (simp <;> omega)))
  replace hA := own_eq hW (by repeat (first | exact hA | apply own_alloc))
  replace hB := own_eq hW (by repeat (first | exact hB | apply own_alloc))
  clear hW zt
  refine wp_region_quiet_below (by kernel_rfl) (by kernel_rfl) ?_
  repeat (first
    | (refine qskip rfl (fun K hK => ?_); go_simp; refine hK _ ?_; clear hK K)
    | (apply qval rfl; (case h => (intro u hu; obtain ⟨_, _⟩ := own_cells (own_below hu hA); obtain ⟨_, _⟩ := own_cells (own_below hu hB); go_simp; exact rfl)); (intro K hK; go_simp; refine hK _ ?_; clear hK K))
    | (apply qcall rfl; (case h => (intro u hu; go_simp; exact ⟨rfl, rfl⟩)); (case hc => (intro u hu; with_reducible exact Calls.in_below hu (rightIn_any _ _ _ _ _ _ _ _ _ _ _))); (intro K hK; go_simp; refine hK _ ?_; clear hK K)))
  refine wpQuiet_nil ?_
  intro w' hu
  replace tt := tt.trans (hu.mono tt.size)
  replace hA := own_below hu hA
  replace hB := own_below hu hB
  obtain ⟨cc_hA, ff_hA⟩ := own_cells hA; have zz_hA := own_lt hA; have zy_hA := Nat.lt_add_right 1 (own_lt hA)
  obtain ⟨cc_hB, ff_hB⟩ := own_cells hB; have zz_hB := own_lt hB; have zy_hB := Nat.lt_add_right 1 (own_lt hB)
  clear hu
  go_wp2_with fail
  go_ret
  exact ⟨rfl, tt⟩
end Go.Proofs.Ytccghhfiidodnaa
