/- The walk of the exact law of a thing's check. No condition but where the argument lies. -/
import Derived.Test.YtnhilnikhjgfhaaTo3
import Derived.Test.YtnhilnikhjgfhaaThg3
import Derived.Deep.RegionWith
namespace Go.Proofs.Ytnhilnikhjgfhaa
open Go.RowKit
set_option linter.unusedVariables false
set_option linter.unusedSimpArgs false

theorem RowR.alloc {w : World} {a : Option Addr} {rs : List Rt} (h : RowR w a rs) (o : Obj) : RowR (w.alloc o) a rs := h.below ((Below.refl _ _).alloc (Nat.le_refl _) _)
theorem RowI.alloc {w : World} {a : Option Addr} {zs : List Int} (h : RowI w a zs) (o : Obj) : RowI (w.alloc o) a zs := h.below ((Below.refl _ _).alloc (Nat.le_refl _) _)
theorem szOne_cases (left m n : Nat) : szOne left m n = -1 ∨ (∃ s : Nat, szOne left m n = s ∧ s ≤ left ∧ m ≤ left ∧ n ≤ left) := by
  unfold szOne
  split
  · exact .inl rfl
  · split
    · exact .inl rfl
    · exact .inr ⟨left - m - n, by omega, by omega, by omega, by omega⟩
set_option maxHeartbeats 4000000 in
theorem fnExactThingOk_walk (w : World) (kind sec vou vers num tg : Int) (sa qa : Option Addr) (rs : List Rt) (zs : List Int) (sc qc : Nat) (hs : RowR w sa rs) (hq : RowI w qa zs) :
    Calls Try.prog 4 #[.agg #[.int .i64 kind, .int .i64 sec, .int .i64 vou, .int .i64 vers, .int .i64 num, .slice sa rs.length sc, .slice qa zs.length qc, .int .i64 tg]] w fun e w' => e = .returned (.bool true) ∧ Below w.heap.size w w' := by
  have tt : Below w.heap.size w w := Below.refl _ _
  have hml := hs.len
  have hnl := hq.len
  have CT := hid (fun u (hu : Below w.heap.size w u) => toThing_any kind sec vou vers num tg sa qa rs zs sc qc u (hs.below hu) (hq.below hu))
  have CS := hid (fun B C c1 c2 u (h1 : RowR u B rs) (h2 : RowI u C zs) => sthingOk_any kind sec vou vers num tg B C rs c1 zs c2 u h1 h2)
  have CI := hid (fun B C c1 c2 u (h1 : RowR u B rs) (h2 : RowI u C zs) => thingOk_any kind sec vou vers num tg B C rs c1 zs c2 u h1 h2)
  have CE := hid (fun B C B' C' c1 c2 c3 c4 u (h1 : RowR u B rs) (h2 : RowI u C zs) (h3 : RowR u B' rs) (h4 : RowI u C' zs) => eqThing_same kind sec vou vers num tg B C B' C' rs zs c1 c2 c3 c4 u h1 h2 h3 h4)
  clear hs hq
  obtain ⟨m, em⟩ : ∃ m, m = rs.length := ⟨_, rfl⟩
  obtain ⟨n, en⟩ : ∃ n, n = zs.length := ⟨_, rfl⟩
  rw [← em] at CT CS CI CE hml ⊢
  rw [← en] at CT CS CI CE hnl ⊢
  clear em en
  have hA := own_new w (.cells #[.int .i64 kind, .int .i64 sec, .int .i64 vou, .int .i64 vers, .int .i64 num, .slice sa m sc, .slice qa n qc, .int .i64 tg] 35)
  generalize thOk kind sec vou vers num rs zs tg = bb at CS CI
  have CZ := szThing_any kind sec vou vers num tg sa qa m sc n qc 1048576 hml hnl (by omega) (by omega)
  rcases szOne_cases 1048576 m n with e1 | ⟨s, e1, hsl, hm, hn⟩
  · rw [show ((1048576 : Nat) : Int) = 1048576 from rfl] at e1
    rw [e1] at CZ
    have CZ' := hid CZ
    clear CZ e1
    go_enter Try.func4, Try.ntmps4
    go_wp2_with fail
    refine (CZ'.out _).mono ?_
    rintro e w' ⟨rfl, hb⟩
    (try clear cc_hA ff_hA); (try clear zz_hA zy_hA)
    have zt := tt.size
    replace tt : Below w.heap.size w w' := by (refine Below.trans ?_ (hb.mono ?_)); (all_goals (repeat (first | with_reducible exact tt | (with_reducible refine Below.setCell ?_ ?_ _) | (with_reducible refine Below.alloc ?_ ?_ _) | with_reducible refine Below.drew ?_)); (all_goals (first | omega | (simp <;> omega))))
    clear zt
    replace hA := own_below hb (by repeat (first | exact hA | apply own_alloc))
    obtain ⟨cc_hA, ff_hA⟩ := own_cells hA; have zz_hA := own_lt hA; have zy_hA := Nat.lt_add_right 1 (own_lt hA)
    clear hb
    go_wp2_with fail
    go_ret
    exact ⟨rfl, tt⟩
  · rw [show ((1048576 : Nat) : Int) = 1048576 from rfl] at e1
    rw [e1] at CZ
    have CZ' := hid CZ
    clear CZ e1
    go_enter Try.func4, Try.ntmps4
    go_wp2_with fail
    refine (CZ'.out _).mono ?_
    rintro e w' ⟨rfl, hb⟩
    (try clear cc_hA ff_hA); (try clear zz_hA zy_hA)
    have zt := tt.size
    replace tt : Below w.heap.size w w' := by (refine Below.trans ?_ (hb.mono ?_)); (all_goals (repeat (first | with_reducible exact tt | (with_reducible refine Below.setCell ?_ ?_ _) | (with_reducible refine Below.alloc ?_ ?_ _) | with_reducible refine Below.drew ?_)); (all_goals (first | omega | (simp <;> omega))))
    clear zt
    replace hA := own_below hb (by repeat (first | exact hA | apply own_alloc))
    obtain ⟨cc_hA, ff_hA⟩ := own_cells hA; have zz_hA := own_lt hA; have zy_hA := Nat.lt_add_right 1 (own_lt hA)
    clear hb
    go_wp2_with fail
    refine (CT.out _ tt hm hn).mono ?_
    rintro e w2 ⟨B, C, rfl, hB, hC, hR, hQ, hb⟩
    replace hA := own_below hb hA
    replace tt := tt.trans (hb.mono tt.size)
    clear hb
    try clear cc_hA ff_hA
    obtain ⟨cc_hA, ff_hA⟩ := own_cells hA
    go_wp2_with fail
    refine (CS.out _ _ _ _ _ hR hQ).mono ?_
    clear hR hQ
    rintro e w3 ⟨rfl, hb⟩
    replace hA := own_below hb hA
    replace tt := tt.trans (hb.mono tt.size)
    clear hb cc_hA ff_hA
    obtain ⟨cc_hA, ff_hA⟩ := own_cells hA
    go_wp2_with fail
    refine (CT.out _ tt hm hn).mono ?_
    rintro e w4 ⟨B2, C2, rfl, hB2, hC2, hR, hQ, hb⟩
    replace hA := own_below hb hA
    replace tt := tt.trans (hb.mono tt.size)
    clear hb cc_hA ff_hA
    obtain ⟨cc_hA, ff_hA⟩ := own_cells hA
    have hX := own_new w4 (.cells #[.int .i64 kind, .int .i64 sec, .int .i64 vou, .int .i64 vers, .int .i64 num, .slice (some ⟨B2, 0, none⟩) m m, .slice (some ⟨C2, 0, none⟩) n n, .int .i64 tg] 28)
    go_wp2_with fail
    refine (CI.out _ _ _ _ _ (hR.alloc _) (hQ.alloc _)).mono ?_
    rintro e w5 ⟨rfl, hb⟩
    replace hR := (hR.alloc _).below hb
    replace hQ := (hQ.alloc _).below hb
    replace hA := own_below hb (own_alloc hA _)
    replace hX := own_below hb hX
    have zt4 := own_lt hA
    have zt := tt.size
    replace tt : Below w.heap.size w w5 := Below.trans (by (have zt := tt.size); (repeat (first | with_reducible exact tt | (with_reducible refine Below.setCell ?_ ?_ _) | (with_reducible refine Below.alloc ?_ ?_ _) | with_reducible refine Below.drew ?_)); (all_goals (first | omega | (simp <;> omega)))) (hb.mono (by simp; omega))
    clear hb cc_hA ff_hA
    obtain ⟨cc_hA, ff_hA⟩ := own_cells hA
    obtain ⟨cc_hX, ff_hX⟩ := own_cells hX
    go_wp2_with fail
    have zt5 := tt.size
    go_region_with (first | (go_at_call 17; refine (CT.out _ (by (have zt := tt.size); (repeat (first | with_reducible exact tt | (with_reducible refine Below.setCell ?_ ?_ _) | (with_reducible refine Below.alloc ?_ ?_ _) | with_reducible refine Below.drew ?_)); (all_goals (first | omega | (simp <;> omega)))) hm hn).mono ?_; rintro e w6 ⟨B3, C3, rfl, hB3, hC3, hR3, hQ3, hb⟩; (replace hR : RowR w6 (some ⟨B2, 0, none⟩) rs := (by refine RowR.below ?_ hb; exact hR)); (replace hQ : RowI w6 (some ⟨C2, 0, none⟩) zs := (by refine RowI.below ?_ hb; exact hQ)); replace hA := own_below hb hA; replace hX := own_below hb hX; (replace tt : Below w.heap.size w w6 := Below.trans (by (have zt := tt.size); (repeat (first | with_reducible exact tt | (with_reducible refine Below.setCell ?_ ?_ _) | (with_reducible refine Below.alloc ?_ ?_ _) | with_reducible refine Below.drew ?_)); (all_goals (first | omega | (simp <;> omega)))) (hb.mono (by first | omega | (simp <;> omega)))); clear hb cc_hA ff_hA cc_hX ff_hX; obtain ⟨cc_hA, ff_hA⟩ := own_cells hA; obtain ⟨cc_hX, ff_hX⟩ := own_cells hX; have zt6 := tt.size) | (go_at_call 18; refine (CE.out _ _ _ _ _ _ _ _ _ hR hQ hR3 hQ3).mono ?_; rintro e w7 ⟨rfl, hb⟩; (replace tt : Below w.heap.size w w7 := Below.trans (by (have zt := tt.size); (repeat (first | with_reducible exact tt | (with_reducible refine Below.setCell ?_ ?_ _) | (with_reducible refine Below.alloc ?_ ?_ _) | with_reducible refine Below.drew ?_)); (all_goals (first | omega | (simp <;> omega)))) (hb.mono (by first | omega | (simp <;> omega)))); clear hb cc_hA ff_hA cc_hX ff_hX))
    all_goals
      go_wp2_with fail
      go_ret
      refine ⟨rfl, (by (have zt := tt.size); (repeat (first | with_reducible exact tt | (with_reducible refine Below.setCell ?_ ?_ _) | (with_reducible refine Below.alloc ?_ ?_ _) | with_reducible refine Below.drew ?_)); (all_goals (first | omega | (simp <;> omega))))⟩
end Go.Proofs.Ytnhilnikhjgfhaa
