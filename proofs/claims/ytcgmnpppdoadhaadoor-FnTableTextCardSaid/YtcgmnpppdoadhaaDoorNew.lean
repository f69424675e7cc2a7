/- The contract of the reference's new thing. No condition. -/
import Derived.Test.YtcgmnpppdoadhaaDoorThg3
import Derived.Test.YtcgmnpppdoadhaaDoorExTh
namespace Go.Proofs.YtcgmnpppdoadhaaDoor
set_option maxRecDepth 100000
open Go.RowKit
set_option linter.unusedVariables false
set_option linter.unusedSimpArgs false

def rt0 : Rt := ⟨0, 0, false, false, false⟩
def newSlots (kind : Int) : List Rt := if hasSl kind then [rt0, rt0, rt0, rt0] else []
set_option maxHeartbeats 1000000 in
theorem thingNew_bad (kind s v to_ : Int) (hk : hasSl kind = false) (hok : thOk kind s v 0 0 [] [] to_ = false) (w : World) :
    Calls Tryd.prog 84 #[.int .i64 kind, .agg #[.int .i64 s, .int .i64 v], .int .i64 to_] w fun e w' =>
      e = .returned (.tuple #[.agg #[.int .i64 0, .int .i64 0, .int .i64 0, .int .i64 0, .int .i64 0, .slice none 0 0, .slice none 0 0, .int .i64 0], .bool false]) ∧ Below w.heap.size w w' := by
  have tt : Below w.heap.size w w := Below.refl _ _
  have CS := hid (fun sa qa c1 c2 u => sthingOk_any kind s v 0 0 to_ sa qa [] c1 [] c2 u (.inl rfl) (.inl rfl))
  have CL := hid (fun u => l3Slots_any kind u)
  rw [hk] at CL
  rw [hok] at CS
  clear hok hk
  have hT := own_new (w.alloc (.cells #[.int .i64 s, .int .i64 v] 32)) (.cells #[.int .i64 0, .int .i64 0, .int .i64 0, .int .i64 0, .int .i64 0, .slice none 0 0, .slice none 0 0, .int .i64 0] 36)
  have hX := own_new ((((w.alloc (.cells #[.int .i64 s, .int .i64 v] 32)).alloc (.cells #[.int .i64 0, .int .i64 0, .int .i64 0, .int .i64 0, .int .i64 0, .slice none 0 0, .slice none 0 0, .int .i64 0] 36)).alloc (.cells #[] 38)).alloc (.cells #[] 3)) (.cells #[.int .i64 kind, .int .i64 s, .int .i64 v, .int .i64 0, .int .i64 0, .slice (some ⟨w.heap.size + 1 + 1, 0, none⟩) 0 0, .slice (some ⟨w.heap.size + 1 + 1 + 1, 0, none⟩) 0 0, .int .i64 to_] 36)
  have hQ := own_alloc (own_new (((w.alloc (.cells #[.int .i64 s, .int .i64 v] 32)).alloc (.cells #[.int .i64 0, .int .i64 0, .int .i64 0, .int .i64 0, .int .i64 0, .slice none 0 0, .slice none 0 0, .int .i64 0] 36)).alloc (.cells #[] 38)) (.cells #[] 3)) (.cells #[.int .i64 kind, .int .i64 s, .int .i64 v, .int .i64 0, .int .i64 0, .slice (some ⟨w.heap.size + 1 + 1, 0, none⟩) 0 0, .slice (some ⟨w.heap.size + 1 + 1 + 1, 0, none⟩) 0 0, .int .i64 to_] 36)
  simp only [World.size_alloc] at hT hX hQ
  go_enter Tryd.func84, Tryd.ntmps84
  go_wp2_with fail
  refine (CL.out _).mono ?_
  rintro e w' ⟨rfl, hb⟩
  (try clear cc_hT ff_hT); (try clear zz_hT zy_hT)
  (try clear cc_hX ff_hX); (try clear zz_hX zy_hX)
  (try clear cc_hQ ff_hQ); (try clear zz_hQ zy_hQ)
  have zt := tt.size
  replace tt : Below w.heap.size w w' := by (refine Below.trans ?_ (hb.mono ?_)); (all_goals (repeat (first | with_reducible exact tt | (with_reducible refine Below.setCell ?_ ?_ _) | (with_reducible refine Below.alloc ?_ ?_ _) | with_reducible refine Below.drew ?_)); (all_goals (first | omega | (simp <;> omega))))
  clear zt
  replace hT := own_below hb (by repeat (first | exact hT | apply own_alloc))
  replace hX := own_below hb (by repeat (first | exact hX | apply own_alloc))
  replace hQ := own_below hb (by repeat (first | exact hQ | apply own_alloc))
  obtain ⟨cc_hT, ff_hT⟩ := own_cells hT; have zz_hT := own_lt hT; have zy_hT := Nat.lt_add_right 1 (own_lt hT)
  obtain ⟨cc_hX, ff_hX⟩ := own_cells hX; have zz_hX := own_lt hX; have zy_hX := Nat.lt_add_right 1 (own_lt hX)
  obtain ⟨cc_hQ, ff_hQ⟩ := own_cells hQ; have zz_hQ := own_lt hQ; have zy_hQ := Nat.lt_add_right 1 (own_lt hQ)
  clear hb
  go_wp2_with fail
  refine (CS.out _ _ _ _ _).mono ?_
  rintro e w' ⟨rfl, hb⟩
  (try clear cc_hT ff_hT); (try clear zz_hT zy_hT)
  (try clear cc_hX ff_hX); (try clear zz_hX zy_hX)
  (try clear cc_hQ ff_hQ); (try clear zz_hQ zy_hQ)
  have zt := tt.size
  replace tt : Below w.heap.size w w' := by (refine Below.trans ?_ (hb.mono ?_)); (all_goals (repeat (first | with_reducible exact tt | (with_reducible refine Below.setCell ?_ ?_ _) | (with_reducible refine Below.alloc ?_ ?_ _) | with_reducible refine Below.drew ?_)); (all_goals (first | omega | (simp <;> omega))))
  clear zt
  replace hT := own_below hb (by repeat (first | exact hT | apply own_alloc))
  replace hX := own_below hb (by repeat (first | exact hX | apply own_alloc))
  replace hQ := own_below hb (by repeat (first | exact hQ | apply own_alloc))
  obtain ⟨cc_hT, ff_hT⟩ := own_cells hT; have zz_hT := own_lt hT; have zy_hT := Nat.lt_add_right 1 (own_lt hT)
  obtain ⟨cc_hX, ff_hX⟩ := own_cells hX; have zz_hX := own_lt hX; have zy_hX := Nat.lt_add_right 1 (own_lt hX)
  obtain ⟨cc_hQ, ff_hQ⟩ := own_cells hQ; have zz_hQ := own_lt hQ; have zy_hQ := Nat.lt_add_right 1 (own_lt hQ)
  clear hb
  go_wp2_with fail
  have hE := (own_set (own_set (own_set (own_set (own_set (own_set (own_set (own_set hT 0 (.int .i64 0)) 1 (.int .i64 0)) 2 (.int .i64 0)) 3 (.int .i64 0)) 4 (.int .i64 0)) 5 (.slice none 0 0)) 6 (.slice none 0 0)) 7 (.int .i64 0))
  obtain ⟨ocE, _⟩ := own_cells hE
  simp at ocE
  have HQ := hid hQ
  clear cc_hX ff_hX hX cc_hT ff_hT hT hE cc_hQ ff_hQ hQ
  refine bodyPost_ret (v := .tuple #[.agg #[.int .i64 0, .int .i64 0, .int .i64 0, .int .i64 0, .int .i64 0, .slice none 0 0, .slice none 0 0, .int .i64 0], .bool false]) ?_ rfl ?_
  · simp only [results, Tryd.results84]
    go_simp
  · have zt := tt.size
    refine ⟨rfl, ?_⟩
    (repeat (first | with_reducible exact tt | (with_reducible refine Below.setCell ?_ ?_ _))); (all_goals (first | omega | (simp <;> omega)))
set_option maxHeartbeats 1000000 in
theorem thingNew_good (kind s v to_ : Int) (hk : hasSl kind = false) (hok : thOk kind s v 0 0 [] [] to_ = true) (w : World) :
    Calls Tryd.prog 84 #[.int .i64 kind, .agg #[.int .i64 s, .int .i64 v], .int .i64 to_] w fun e w' =>
      ∃ B C : Nat, e = .returned (.tuple #[.agg #[.int .i64 kind, .int .i64 s, .int .i64 v, .int .i64 0, .int .i64 0, .slice (some ⟨B, 0, none⟩) 0 0, .slice (some ⟨C, 0, none⟩) 0 0, .int .i64 to_], .bool true]) ∧ w.heap.size ≤ B ∧ w.heap.size ≤ C ∧ w'.heap[B]? = some (.cells #[] 38 (0, 0)) ∧ w'.heap[C]? = some (.cells #[] 3 (0, 0)) ∧ Below w.heap.size w w' := by
  have tt : Below w.heap.size w w := Below.refl _ _
  have CS := hid (fun sa qa c1 c2 u => sthingOk_any kind s v 0 0 to_ sa qa [] c1 [] c2 u (.inl rfl) (.inl rfl))
  have CL := hid (fun u => l3Slots_any kind u)
  rw [hk] at CL
  rw [hok] at CS
  clear hok hk
  have hT := own_new (w.alloc (.cells #[.int .i64 s, .int .i64 v] 32)) (.cells #[.int .i64 0, .int .i64 0, .int .i64 0, .int .i64 0, .int .i64 0, .slice none 0 0, .slice none 0 0, .int .i64 0] 36)
  have hX := own_new ((((w.alloc (.cells #[.int .i64 s, .int .i64 v] 32)).alloc (.cells #[.int .i64 0, .int .i64 0, .int .i64 0, .int .i64 0, .int .i64 0, .slice none 0 0, .slice none 0 0, .int .i64 0] 36)).alloc (.cells #[] 38)).alloc (.cells #[] 3)) (.cells #[.int .i64 kind, .int .i64 s, .int .i64 v, .int .i64 0, .int .i64 0, .slice (some ⟨w.heap.size + 1 + 1, 0, none⟩) 0 0, .slice (some ⟨w.heap.size + 1 + 1 + 1, 0, none⟩) 0 0, .int .i64 to_] 36)
  have hQ := own_alloc (own_new (((w.alloc (.cells #[.int .i64 s, .int .i64 v] 32)).alloc (.cells #[.int .i64 0, .int .i64 0, .int .i64 0, .int .i64 0, .int .i64 0, .slice none 0 0, .slice none 0 0, .int .i64 0] 36)).alloc (.cells #[] 38)) (.cells #[] 3)) (.cells #[.int .i64 kind, .int .i64 s, .int .i64 v, .int .i64 0, .int .i64 0, .slice (some ⟨w.heap.size + 1 + 1, 0, none⟩) 0 0, .slice (some ⟨w.heap.size + 1 + 1 + 1, 0, none⟩) 0 0, .int .i64 to_] 36)
  have hR := own_alloc (own_alloc (own_new (((w.alloc (.cells #[.int .i64 s, .int .i64 v] 32)).alloc (.cells #[.int .i64 0, .int .i64 0, .int .i64 0, .int .i64 0, .int .i64 0, .slice none 0 0, .slice none 0 0, .int .i64 0] 36))) (.cells #[] 38)) (.cells #[] 3)) (.cells #[.int .i64 kind, .int .i64 s, .int .i64 v, .int .i64 0, .int .i64 0, .slice (some ⟨w.heap.size + 1 + 1, 0, none⟩) 0 0, .slice (some ⟨w.heap.size + 1 + 1 + 1, 0, none⟩) 0 0, .int .i64 to_] 36)
  simp only [World.size_alloc] at hT hX hQ hR
  go_enter Tryd.func84, Tryd.ntmps84
  go_wp2_with fail
  refine (CL.out _).mono ?_
  rintro e w' ⟨rfl, hb⟩
  (try clear cc_hT ff_hT); (try clear zz_hT zy_hT)
  (try clear cc_hX ff_hX); (try clear zz_hX zy_hX)
  (try clear cc_hQ ff_hQ); (try clear zz_hQ zy_hQ)
  (try clear cc_hR ff_hR); (try clear zz_hR zy_hR)
  have zt := tt.size
  replace tt : Below w.heap.size w w' := by (refine Below.trans ?_ (hb.mono ?_)); (all_goals (repeat (first | with_reducible exact tt | (with_reducible refine Below.setCell ?_ ?_ _) | (with_reducible refine Below.alloc ?_ ?_ _) | with_reducible refine Below.drew ?_)); (all_goals (first | omega | (simp <;> omega))))
  clear zt
  replace hT := own_below hb (by repeat (first | exact hT | apply own_alloc))
  replace hX := own_below hb (by repeat (first | exact hX | apply own_alloc))
  replace hQ := own_below hb (by repeat (first | exact hQ | apply own_alloc))
  replace hR := own_below hb (by repeat (first | exact hR | apply own_alloc))
  obtain ⟨cc_hT, ff_hT⟩ := own_cells hT; have zz_hT := own_lt hT; have zy_hT := Nat.lt_add_right 1 (own_lt hT)
  obtain ⟨cc_hX, ff_hX⟩ := own_cells hX; have zz_hX := own_lt hX; have zy_hX := Nat.lt_add_right 1 (own_lt hX)
  obtain ⟨cc_hQ, ff_hQ⟩ := own_cells hQ; have zz_hQ := own_lt hQ; have zy_hQ := Nat.lt_add_right 1 (own_lt hQ)
  obtain ⟨cc_hR, ff_hR⟩ := own_cells hR; have zz_hR := own_lt hR; have zy_hR := Nat.lt_add_right 1 (own_lt hR)
  clear hb
  go_wp2_with fail
  refine (CS.out _ _ _ _ _).mono ?_
  rintro e w' ⟨rfl, hb⟩
  (try clear cc_hT ff_hT); (try clear zz_hT zy_hT)
  (try clear cc_hX ff_hX); (try clear zz_hX zy_hX)
  (try clear cc_hQ ff_hQ); (try clear zz_hQ zy_hQ)
  (try clear cc_hR ff_hR); (try clear zz_hR zy_hR)
  have zt := tt.size
  replace tt : Below w.heap.size w w' := by (refine Below.trans ?_ (hb.mono ?_)); (all_goals (repeat (first | with_reducible exact tt | (with_reducible refine Below.setCell ?_ ?_ _) | (with_reducible refine Below.alloc ?_ ?_ _) | with_reducible refine Below.drew ?_)); (all_goals (first | omega | (simp <;> omega))))
  clear zt
  replace hT := own_below hb (by repeat (first | exact hT | apply own_alloc))
  replace hX := own_below hb (by repeat (first | exact hX | apply own_alloc))
  replace hQ := own_below hb (by repeat (first | exact hQ | apply own_alloc))
  replace hR := own_below hb (by repeat (first | exact hR | apply own_alloc))
  obtain ⟨cc_hT, ff_hT⟩ := own_cells hT; have zz_hT := own_lt hT; have zy_hT := Nat.lt_add_right 1 (own_lt hT)
  obtain ⟨cc_hX, ff_hX⟩ := own_cells hX; have zz_hX := own_lt hX; have zy_hX := Nat.lt_add_right 1 (own_lt hX)
  obtain ⟨cc_hQ, ff_hQ⟩ := own_cells hQ; have zz_hQ := own_lt hQ; have zy_hQ := Nat.lt_add_right 1 (own_lt hQ)
  obtain ⟨cc_hR, ff_hR⟩ := own_cells hR; have zz_hR := own_lt hR; have zy_hR := Nat.lt_add_right 1 (own_lt hR)
  clear hb
  go_wp2_with fail
  have hE := (own_set (own_set (own_set (own_set (own_set (own_set (own_set (own_set hT 0 (.int .i64 kind)) 1 (.int .i64 s)) 2 (.int .i64 v)) 3 (.int .i64 0)) 4 (.int .i64 0)) 5 (.slice (some ⟨w.heap.size + 1 + 1, 0, none⟩) 0 0)) 6 (.slice (some ⟨w.heap.size + 1 + 1 + 1, 0, none⟩) 0 0)) 7 (.int .i64 to_))
  obtain ⟨ocE, _⟩ := own_cells hE
  simp at ocE
  have HQ := hid hQ
  have HR := hid hR
  clear cc_hX ff_hX hX cc_hT ff_hT hT hE cc_hQ ff_hQ hQ cc_hR ff_hR hR
  refine bodyPost_ret (v := .tuple #[.agg #[.int .i64 kind, .int .i64 s, .int .i64 v, .int .i64 0, .int .i64 0, .slice (some ⟨w.heap.size + 1 + 1, 0, none⟩) 0 0, .slice (some ⟨w.heap.size + 1 + 1 + 1, 0, none⟩) 0 0, .int .i64 to_], .bool true]) ?_ rfl ?_
  · simp only [results, Tryd.results84]
    go_simp
  · have zt := tt.size
    refine ⟨_, _, rfl, by omega, by omega, (own_set_ne (own_set_ne (own_set_ne (own_set_ne (own_set_ne (own_set_ne (own_set_ne (own_set_ne HR.out (p := ⟨w.heap.size + 1, 0, none⟩) (by simp) (.int .i64 kind)) (p := ⟨w.heap.size + 1, 1, none⟩) (by simp) (.int .i64 s)) (p := ⟨w.heap.size + 1, 2, none⟩) (by simp) (.int .i64 v)) (p := ⟨w.heap.size + 1, 3, none⟩) (by simp) (.int .i64 0)) (p := ⟨w.heap.size + 1, 4, none⟩) (by simp) (.int .i64 0)) (p := ⟨w.heap.size + 1, 5, none⟩) (by simp) (.slice (some ⟨w.heap.size + 1 + 1, 0, none⟩) 0 0)) (p := ⟨w.heap.size + 1, 6, none⟩) (by simp) (.slice (some ⟨w.heap.size + 1 + 1 + 1, 0, none⟩) 0 0)) (p := ⟨w.heap.size + 1, 7, none⟩) (by simp) (.int .i64 to_)), (own_set_ne (own_set_ne (own_set_ne (own_set_ne (own_set_ne (own_set_ne (own_set_ne (own_set_ne HQ.out (p := ⟨w.heap.size + 1, 0, none⟩) (by simp) (.int .i64 kind)) (p := ⟨w.heap.size + 1, 1, none⟩) (by simp) (.int .i64 s)) (p := ⟨w.heap.size + 1, 2, none⟩) (by simp) (.int .i64 v)) (p := ⟨w.heap.size + 1, 3, none⟩) (by simp) (.int .i64 0)) (p := ⟨w.heap.size + 1, 4, none⟩) (by simp) (.int .i64 0)) (p := ⟨w.heap.size + 1, 5, none⟩) (by simp) (.slice (some ⟨w.heap.size + 1 + 1, 0, none⟩) 0 0)) (p := ⟨w.heap.size + 1, 6, none⟩) (by simp) (.slice (some ⟨w.heap.size + 1 + 1 + 1, 0, none⟩) 0 0)) (p := ⟨w.heap.size + 1, 7, none⟩) (by simp) (.int .i64 to_)), ?_⟩
    (repeat (first | with_reducible exact tt | (with_reducible refine Below.setCell ?_ ?_ _))); (all_goals (first | omega | (simp <;> omega)))
end Go.Proofs.YtcgmnpppdoadhaaDoor
