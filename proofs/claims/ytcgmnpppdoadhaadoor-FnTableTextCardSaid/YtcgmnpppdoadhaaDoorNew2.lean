/- The contract of the reference's new thing that has slots. No condition. -/
import Derived.Test.YtcgmnpppdoadhaaDoorNew
import Derived.Test.YtcgmnpppdoadhaaDoorTo
namespace Go.Proofs.YtcgmnpppdoadhaaDoor
set_option maxRecDepth 100000
open Go.RowKit
set_option linter.unusedVariables false
set_option linter.unusedSimpArgs false

def z20 : Array Value := madeCells #[.int .i64 0, .int .i64 0, .bool false, .bool false, .bool false] 20
theorem z20_eq : z20 = #[.int .i64 0, .int .i64 0, .bool false, .bool false, .bool false, .int .i64 0, .int .i64 0, .bool false, .bool false, .bool false, .int .i64 0, .int .i64 0, .bool false, .bool false, .bool false, .int .i64 0, .int .i64 0, .bool false, .bool false, .bool false] := by kernel_rfl
theorem z20_row {u : World} {B : Nat} {T : TypeId} (h : u.heap[B]? = some (.cells z20 T (0, 0))) : RowR u (some ⟨B, 0, none⟩) [rt0, rt0, rt0, rt0] := by
  rw [z20_eq] at h
  refine .inr ⟨B, 0, rfl, own_lt h, by simp, fun i x hx => ?_⟩
  have oc := (own_cells h).1
  match i, hx with
  | 0, hx => cases hx; exact ⟨(oc _).trans rfl, (oc _).trans rfl, (oc _).trans rfl, (oc _).trans rfl, (oc _).trans rfl⟩
  | 1, hx => cases hx; exact ⟨(oc _).trans rfl, (oc _).trans rfl, (oc _).trans rfl, (oc _).trans rfl, (oc _).trans rfl⟩
  | 2, hx => cases hx; exact ⟨(oc _).trans rfl, (oc _).trans rfl, (oc _).trans rfl, (oc _).trans rfl, (oc _).trans rfl⟩
  | 3, hx => cases hx; exact ⟨(oc _).trans rfl, (oc _).trans rfl, (oc _).trans rfl, (oc _).trans rfl, (oc _).trans rfl⟩
  | n + 4, hx => cases hx
theorem make4 (u : World) : (Instr.makeSlice 33 (.int .i64 4) (.int .i64 4)).run Tryd.prog u = .ok (.slice (some ⟨u.heap.size, 0, none⟩) 4 4) (u.alloc (.cells z20 38)) := by
  obtain ⟨i0, hi, hz0, hz1, hz2⟩ := info_parts infoRt
  have h := run_make (P := Tryd.prog) u 33 38 i0 _ Tryd.underlying33 hi hz0 .i64 .i64 4 4 (by omega) (by omega) (by rw [hz2]; omega) (by omega)
  rw [hz1] at h
  exact h
set_option maxHeartbeats 1000000 in
theorem thingNewS_bad (kind s v to_ : Int) (hk : hasSl kind = true) (hok : thOk kind s v 0 0 [rt0, rt0, rt0, rt0] [] to_ = false) (w : World) :
    Calls Tryd.prog 84 #[.int .i64 kind, .agg #[.int .i64 s, .int .i64 v], .int .i64 to_] w fun e w' =>
      e = .returned (.tuple #[.agg #[.int .i64 0, .int .i64 0, .int .i64 0, .int .i64 0, .int .i64 0, .slice none 0 0, .slice none 0 0, .int .i64 0], .bool false]) ∧ Below w.heap.size w w' := by
  have tt : Below w.heap.size w w := Below.refl _ _
  have CS := hid (fun sa qa c1 c2 u (h : RowR u sa [rt0, rt0, rt0, rt0]) => sthingOk_any kind s v 0 0 to_ sa qa [rt0, rt0, rt0, rt0] c1 [] c2 u h (.inl rfl))
  have CL := hid (fun u => l3Slots_any kind u)
  rw [hk] at CL
  rw [hok] at CS
  clear hok hk
  have hT := own_new (w.alloc (.cells #[.int .i64 s, .int .i64 v] 32)) (.cells #[.int .i64 0, .int .i64 0, .int .i64 0, .int .i64 0, .int .i64 0, .slice none 0 0, .slice none 0 0, .int .i64 0] 36)
  have hX := own_new ((((w.alloc (.cells #[.int .i64 s, .int .i64 v] 32)).alloc (.cells #[.int .i64 0, .int .i64 0, .int .i64 0, .int .i64 0, .int .i64 0, .slice none 0 0, .slice none 0 0, .int .i64 0] 36)).alloc (.cells #[] 38)).alloc (.cells #[] 3)) (.cells #[.int .i64 kind, .int .i64 s, .int .i64 v, .int .i64 0, .int .i64 0, .slice (some ⟨w.heap.size + 1 + 1, 0, none⟩) 0 0, .slice (some ⟨w.heap.size + 1 + 1 + 1, 0, none⟩) 0 0, .int .i64 to_] 36)
  have hQ := own_alloc (own_new (((w.alloc (.cells #[.int .i64 s, .int .i64 v] 32)).alloc (.cells #[.int .i64 0, .int .i64 0, .int .i64 0, .int .i64 0, .int .i64 0, .slice none 0 0, .slice none 0 0, .int .i64 0] 36)).alloc (.cells #[] 38)) (.cells #[] 3)) (.cells #[.int .i64 kind, .int .i64 s, .int .i64 v, .int .i64 0, .int .i64 0, .slice (some ⟨w.heap.size + 1 + 1, 0, none⟩) 0 0, .slice (some ⟨w.heap.size + 1 + 1 + 1, 0, none⟩) 0 0, .int .i64 to_] 36)
  simp only [World.size_alloc] at hT hX hQ
  have hmk := make4
  go_enter Tryd.func84, Tryd.ntmps84
  go_wp2_with fail
  refine (CL.out _).mono ?_
  rintro e w' ⟨rfl, hb⟩
  (try clear cc_hT ff_hT); (try clear zz_hT zy_hT)
  (try clear cc_hX ff_hX); (try clear zz_hX zy_hX)
  (try clear cc_hQ ff_hQ); (try clear zz_hQ zy_hQ)
  have zt := tt.size
  replace tt : Below w.heap.size w w' := by (refine Below.trans ?_ (hb.mono ?_)); (all_goals (repeat (first | with_reducible exact tt | (with_reducible refine Below.setCell ?_ ?_ _) | (with_reducible refine Below.alloc ?_ ?_ _) | with_reducible refine Below.drew ?_)); (all_goals (first | omega | (simp <;> omega))))
  clear zt
  replace hT := own_below hb (by repeat (first | exact hT | apply own_alloc))
  replace hX := own_below hb (by repeat (first | exact hX | apply own_alloc))
  replace hQ := own_below hb (by repeat (first | exact hQ | apply own_alloc))
  obtain ⟨cc_hT, ff_hT⟩ := own_cells hT; have zz_hT := own_lt hT; have zy_hT := Nat.lt_add_right 1 (own_lt hT)
  obtain ⟨cc_hX, ff_hX⟩ := own_cells hX; have zz_hX := own_lt hX; have zy_hX := Nat.lt_add_right 1 (own_lt hX)
  obtain ⟨cc_hQ, ff_hQ⟩ := own_cells hQ; have zz_hQ := own_lt hQ; have zy_hQ := Nat.lt_add_right 1 (own_lt hQ)
  clear hb
  have zS := own_lt hX
  go_wp2_with fail
  have hS := own_new (w'.setCell ⟨w.heap.size + 1 + 1 + 1 + 1, 5, none⟩ (.slice (some ⟨w'.heap.size, 0, none⟩) 4 4)) (.cells z20 38)
  simp only [World.size_setCell] at hS
  replace hT := own_alloc (own_set_ne hT (p := ⟨w.heap.size + 1 + 1 + 1 + 1, 5, none⟩) (by simp <;> omega) (.slice (some ⟨w'.heap.size, 0, none⟩) 4 4)) (.cells z20 38)
  replace hQ := own_alloc (own_set_ne hQ (p := ⟨w.heap.size + 1 + 1 + 1 + 1, 5, none⟩) (by simp <;> omega) (.slice (some ⟨w'.heap.size, 0, none⟩) 4 4)) (.cells z20 38)
  replace hX : ((w'.setCell ⟨w.heap.size + 1 + 1 + 1 + 1, 5, none⟩ (.slice (some ⟨w'.heap.size, 0, none⟩) 4 4)).alloc (.cells z20 38)).heap[w.heap.size + 1 + 1 + 1 + 1]? = some (.cells #[.int .i64 kind, .int .i64 s, .int .i64 v, .int .i64 0, .int .i64 0, .slice (some ⟨w'.heap.size, 0, none⟩) 4 4, .slice (some ⟨w.heap.size + 1 + 1 + 1, 0, none⟩) 0 0, .int .i64 to_] 36 (0, 0)) := own_alloc (own_set hX 5 (.slice (some ⟨w'.heap.size, 0, none⟩) 4 4)) (.cells z20 38)
  have eS : ∃ S, S = w'.heap.size := ⟨_, rfl⟩
  obtain ⟨S, eS⟩ := eS
  rw [← eS] at hS hT hX hQ zS
  rw [← eS]
  clear eS
  refine (CS.out _ _ _ _ _ (z20_row hS)).mono ?_
  rintro e w' ⟨rfl, hb⟩
  (try clear cc_hT ff_hT); (try clear zz_hT zy_hT)
  (try clear cc_hX ff_hX); (try clear zz_hX zy_hX)
  (try clear cc_hQ ff_hQ); (try clear zz_hQ zy_hQ)
  (try clear cc_hS ff_hS); (try clear zz_hS zy_hS)
  have zt := tt.size
  replace tt : Below w.heap.size w w' := by (refine Below.trans ?_ (hb.mono ?_)); (all_goals (repeat (first | with_reducible exact tt | (with_reducible refine Below.setCell ?_ ?_ _) | (with_reducible refine Below.alloc ?_ ?_ _) | with_reducible refine Below.drew ?_)); (all_goals (first | omega | (simp <;> omega))))
  clear zt
  replace hT := own_below hb (by repeat (first | exact hT | apply own_alloc))
  replace hX := own_below hb (by repeat (first | exact hX | apply own_alloc))
  replace hQ := own_below hb (by repeat (first | exact hQ | apply own_alloc))
  replace hS := own_below hb (by repeat (first | exact hS | apply own_alloc))
  obtain ⟨cc_hT, ff_hT⟩ := own_cells hT; have zz_hT := own_lt hT; have zy_hT := Nat.lt_add_right 1 (own_lt hT)
  obtain ⟨cc_hX, ff_hX⟩ := own_cells hX; have zz_hX := own_lt hX; have zy_hX := Nat.lt_add_right 1 (own_lt hX)
  obtain ⟨cc_hQ, ff_hQ⟩ := own_cells hQ; have zz_hQ := own_lt hQ; have zy_hQ := Nat.lt_add_right 1 (own_lt hQ)
  obtain ⟨cc_hS, ff_hS⟩ := own_cells hS; have zz_hS := own_lt hS; have zy_hS := Nat.lt_add_right 1 (own_lt hS)
  clear hb
  go_wp2_with fail
  have hE := (own_set (own_set (own_set (own_set (own_set (own_set (own_set (own_set hT 0 (.int .i64 0)) 1 (.int .i64 0)) 2 (.int .i64 0)) 3 (.int .i64 0)) 4 (.int .i64 0)) 5 (.slice none 0 0)) 6 (.slice none 0 0)) 7 (.int .i64 0))
  obtain ⟨ocE, _⟩ := own_cells hE
  simp at ocE
  have HQ := hid hQ
  have HS := hid hS
  clear cc_hX ff_hX hX cc_hT ff_hT hT hE cc_hQ ff_hQ hQ cc_hS ff_hS hS
  refine bodyPost_ret (v := .tuple #[.agg #[.int .i64 0, .int .i64 0, .int .i64 0, .int .i64 0, .int .i64 0, .slice none 0 0, .slice none 0 0, .int .i64 0], .bool false]) ?_ rfl ?_
  · simp only [results, Tryd.results84]
    go_simp
  · have zt := tt.size
    refine ⟨rfl, ?_⟩
    (repeat (first | with_reducible exact tt | (with_reducible refine Below.setCell ?_ ?_ _))); (all_goals (first | omega | (simp <;> omega)))
set_option maxHeartbeats 1000000 in
theorem thingNewS_good (kind s v to_ : Int) (hk : hasSl kind = true) (hok : thOk kind s v 0 0 [rt0, rt0, rt0, rt0] [] to_ = true) (w : World) :
    Calls Tryd.prog 84 #[.int .i64 kind, .agg #[.int .i64 s, .int .i64 v], .int .i64 to_] w fun e w' =>
      ∃ B C : Nat, e = .returned (.tuple #[.agg #[.int .i64 kind, .int .i64 s, .int .i64 v, .int .i64 0, .int .i64 0, .slice (some ⟨B, 0, none⟩) 4 4, .slice (some ⟨C, 0, none⟩) 0 0, .int .i64 to_], .bool true]) ∧ w.heap.size ≤ B ∧ w.heap.size ≤ C ∧ w'.heap[B]? = some (.cells z20 38 (0, 0)) ∧ w'.heap[C]? = some (.cells #[] 3 (0, 0)) ∧ Below w.heap.size w w' := by
  have tt : Below w.heap.size w w := Below.refl _ _
  have CS := hid (fun sa qa c1 c2 u (h : RowR u sa [rt0, rt0, rt0, rt0]) => sthingOk_any kind s v 0 0 to_ sa qa [rt0, rt0, rt0, rt0] c1 [] c2 u h (.inl rfl))
  have CL := hid (fun u => l3Slots_any kind u)
  rw [hk] at CL
  rw [hok] at CS
  clear hok hk
  have hT := own_new (w.alloc (.cells #[.int .i64 s, .int .i64 v] 32)) (.cells #[.int .i64 0, .int .i64 0, .int .i64 0, .int .i64 0, .int .i64 0, .slice none 0 0, .slice none 0 0, .int .i64 0] 36)
  have hX := own_new ((((w.alloc (.cells #[.int .i64 s, .int .i64 v] 32)).alloc (.cells #[.int .i64 0, .int .i64 0, .int .i64 0, .int .i64 0, .int .i64 0, .slice none 0 0, .slice none 0 0, .int .i64 0] 36)).alloc (.cells #[] 38)).alloc (.cells #[] 3)) (.cells #[.int .i64 kind, .int .i64 s, .int .i64 v, .int .i64 0, .int .i64 0, .slice (some ⟨w.heap.size + 1 + 1, 0, none⟩) 0 0, .slice (some ⟨w.heap.size + 1 + 1 + 1, 0, none⟩) 0 0, .int .i64 to_] 36)
  have hQ := own_alloc (own_new (((w.alloc (.cells #[.int .i64 s, .int .i64 v] 32)).alloc (.cells #[.int .i64 0, .int .i64 0, .int .i64 0, .int .i64 0, .int .i64 0, .slice none 0 0, .slice none 0 0, .int .i64 0] 36)).alloc (.cells #[] 38)) (.cells #[] 3)) (.cells #[.int .i64 kind, .int .i64 s, .int .i64 v, .int .i64 0, .int .i64 0, .slice (some ⟨w.heap.size + 1 + 1, 0, none⟩) 0 0, .slice (some ⟨w.heap.size + 1 + 1 + 1, 0, none⟩) 0 0, .int .i64 to_] 36)
  simp only [World.size_alloc] at hT hX hQ
  have hmk := make4
  go_enter Tryd.func84, Tryd.ntmps84
  go_wp2_with fail
  refine (CL.out _).mono ?_
  rintro e w' ⟨rfl, hb⟩
  (try clear cc_hT ff_hT); (try clear zz_hT zy_hT)
  (try clear cc_hX ff_hX); (try clear zz_hX zy_hX)
  (try clear cc_hQ ff_hQ); (try clear zz_hQ zy_hQ)
  have zt := tt.size
  replace tt : Below w.heap.size w w' := by (refine Below.trans ?_ (hb.mono ?_)); (all_goals (repeat (first | with_reducible exact tt | (with_reducible refine Below.setCell ?_ ?_ _) | (with_reducible refine Below.alloc ?_ ?_ _) | with_reducible refine Below.drew ?_)); (all_goals (first | omega | (simp <;> omega))))
  clear zt
  replace hT := own_below hb (by repeat (first | exact hT | apply own_alloc))
  replace hX := own_below hb (by repeat (first | exact hX | apply own_alloc))
  replace hQ := own_below hb (by repeat (first | exact hQ | apply own_alloc))
  obtain ⟨cc_hT, ff_hT⟩ := own_cells hT; have zz_hT := own_lt hT; have zy_hT := Nat.lt_add_right 1 (own_lt hT)
  obtain ⟨cc_hX, ff_hX⟩ := own_cells hX; have zz_hX := own_lt hX; have zy_hX := Nat.lt_add_right 1 (own_lt hX)
  obtain ⟨cc_hQ, ff_hQ⟩ := own_cells hQ; have zz_hQ := own_lt hQ; have zy_hQ := Nat.lt_add_right 1 (own_lt hQ)
  clear hb
  have zS := own_lt hX
  go_wp2_with fail
  have hS := own_new (w'.setCell ⟨w.heap.size + 1 + 1 + 1 + 1, 5, none⟩ (.slice (some ⟨w'.heap.size, 0, none⟩) 4 4)) (.cells z20 38)
  simp only [World.size_setCell] at hS
  replace hT := own_alloc (own_set_ne hT (p := ⟨w.heap.size + 1 + 1 + 1 + 1, 5, none⟩) (by simp <;> omega) (.slice (some ⟨w'.heap.size, 0, none⟩) 4 4)) (.cells z20 38)
  replace hQ := own_alloc (own_set_ne hQ (p := ⟨w.heap.size + 1 + 1 + 1 + 1, 5, none⟩) (by simp <;> omega) (.slice (some ⟨w'.heap.size, 0, none⟩) 4 4)) (.cells z20 38)
  replace hX : ((w'.setCell ⟨w.heap.size + 1 + 1 + 1 + 1, 5, none⟩ (.slice (some ⟨w'.heap.size, 0, none⟩) 4 4)).alloc (.cells z20 38)).heap[w.heap.size + 1 + 1 + 1 + 1]? = some (.cells #[.int .i64 kind, .int .i64 s, .int .i64 v, .int .i64 0, .int .i64 0, .slice (some ⟨w'.heap.size, 0, none⟩) 4 4, .slice (some ⟨w.heap.size + 1 + 1 + 1, 0, none⟩) 0 0, .int .i64 to_] 36 (0, 0)) := own_alloc (own_set hX 5 (.slice (some ⟨w'.heap.size, 0, none⟩) 4 4)) (.cells z20 38)
  have eS : ∃ S, S = w'.heap.size := ⟨_, rfl⟩
  obtain ⟨S, eS⟩ := eS
  rw [← eS] at hS hT hX hQ zS
  rw [← eS]
  clear eS
  refine (CS.out _ _ _ _ _ (z20_row hS)).mono ?_
  rintro e w' ⟨rfl, hb⟩
  (try clear cc_hT ff_hT); (try clear zz_hT zy_hT)
  (try clear cc_hX ff_hX); (try clear zz_hX zy_hX)
  (try clear cc_hQ ff_hQ); (try clear zz_hQ zy_hQ)
  (try clear cc_hS ff_hS); (try clear zz_hS zy_hS)
  have zt := tt.size
  replace tt : Below w.heap.size w w' := by (refine Below.trans ?_ (hb.mono ?_)); (all_goals (repeat (first | with_reducible exact tt | (with_reducible refine Below.setCell ?_ ?_ _) | (with_reducible refine Below.alloc ?_ ?_ _) | with_reducible refine Below.drew ?_)); (all_goals (first | omega | (simp <;> omega))))
  clear zt
  replace hT := own_below hb (by repeat (first | exact hT | apply own_alloc))
  replace hX := own_below hb (by repeat (first | exact hX | apply own_alloc))
  replace hQ := own_below hb (by repeat (first | exact hQ | apply own_alloc))
  replace hS := own_below hb (by repeat (first | exact hS | apply own_alloc))
  obtain ⟨cc_hT, ff_hT⟩ := own_cells hT; have zz_hT := own_lt hT; have zy_hT := Nat.lt_add_right 1 (own_lt hT)
  obtain ⟨cc_hX, ff_hX⟩ := own_cells hX; have zz_hX := own_lt hX; have zy_hX := Nat.lt_add_right 1 (own_lt hX)
  obtain ⟨cc_hQ, ff_hQ⟩ := own_cells hQ; have zz_hQ := own_lt hQ; have zy_hQ := Nat.lt_add_right 1 (own_lt hQ)
  obtain ⟨cc_hS, ff_hS⟩ := own_cells hS; have zz_hS := own_lt hS; have zy_hS := Nat.lt_add_right 1 (own_lt hS)
  clear hb
  go_wp2_with fail
  have hE := (own_set (own_set (own_set (own_set (own_set (own_set (own_set (own_set hT 0 (.int .i64 kind)) 1 (.int .i64 s)) 2 (.int .i64 v)) 3 (.int .i64 0)) 4 (.int .i64 0)) 5 (.slice (some ⟨S, 0, none⟩) 4 4)) 6 (.slice (some ⟨w.heap.size + 1 + 1 + 1, 0, none⟩) 0 0)) 7 (.int .i64 to_))
  obtain ⟨ocE, _⟩ := own_cells hE
  simp at ocE
  have HQ := hid hQ
  have HS := hid hS
  clear cc_hX ff_hX hX cc_hT ff_hT hT hE cc_hQ ff_hQ hQ cc_hS ff_hS hS
  refine bodyPost_ret (v := .tuple #[.agg #[.int .i64 kind, .int .i64 s, .int .i64 v, .int .i64 0, .int .i64 0, .slice (some ⟨S, 0, none⟩) 4 4, .slice (some ⟨w.heap.size + 1 + 1 + 1, 0, none⟩) 0 0, .int .i64 to_], .bool true]) ?_ rfl ?_
  · simp only [results, Tryd.results84]
    go_simp
  · have zt := tt.size
    refine ⟨_, _, rfl, by omega, by omega, (own_set_ne (own_set_ne (own_set_ne (own_set_ne (own_set_ne (own_set_ne (own_set_ne (own_set_ne HS.out (p := ⟨w.heap.size + 1, 0, none⟩) (by simp; omega) (.int .i64 kind)) (p := ⟨w.heap.size + 1, 1, none⟩) (by simp; omega) (.int .i64 s)) (p := ⟨w.heap.size + 1, 2, none⟩) (by simp; omega) (.int .i64 v)) (p := ⟨w.heap.size + 1, 3, none⟩) (by simp; omega) (.int .i64 0)) (p := ⟨w.heap.size + 1, 4, none⟩) (by simp; omega) (.int .i64 0)) (p := ⟨w.heap.size + 1, 5, none⟩) (by simp; omega) (.slice (some ⟨S, 0, none⟩) 4 4)) (p := ⟨w.heap.size + 1, 6, none⟩) (by simp; omega) (.slice (some ⟨w.heap.size + 1 + 1 + 1, 0, none⟩) 0 0)) (p := ⟨w.heap.size + 1, 7, none⟩) (by simp; omega) (.int .i64 to_)), (own_set_ne (own_set_ne (own_set_ne (own_set_ne (own_set_ne (own_set_ne (own_set_ne (own_set_ne HQ.out (p := ⟨w.heap.size + 1, 0, none⟩) (by simp) (.int .i64 kind)) (p := ⟨w.heap.size + 1, 1, none⟩) (by simp) (.int .i64 s)) (p := ⟨w.heap.size + 1, 2, none⟩) (by simp) (.int .i64 v)) (p := ⟨w.heap.size + 1, 3, none⟩) (by simp) (.int .i64 0)) (p := ⟨w.heap.size + 1, 4, none⟩) (by simp) (.int .i64 0)) (p := ⟨w.heap.size + 1, 5, none⟩) (by simp) (.slice (some ⟨S, 0, none⟩) 4 4)) (p := ⟨w.heap.size + 1, 6, none⟩) (by simp) (.slice (some ⟨w.heap.size + 1 + 1 + 1, 0, none⟩) 0 0)) (p := ⟨w.heap.size + 1, 7, none⟩) (by simp) (.int .i64 to_)), ?_⟩
    (repeat (first | with_reducible exact tt | (with_reducible refine Below.setCell ?_ ?_ _))); (all_goals (first | omega | (simp <;> omega)))
end Go.Proofs.YtcgmnpppdoadhaaDoor
