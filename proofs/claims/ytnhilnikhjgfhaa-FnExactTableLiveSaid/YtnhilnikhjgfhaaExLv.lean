/- The walk of the exact law of what lives. No condition but where the table lies. -/
import Derived.Test.YtnhilnikhjgfhaaTo4
import Derived.Test.YtnhilnikhjgfhaaLive
import Derived.Deep.RegionWith
namespace Go.Proofs.Ytnhilnikhjgfhaa
open Go.RowKit
set_option linter.unusedVariables false
set_option linter.unusedSimpArgs false

set_option maxHeartbeats 4000000 in
theorem fnExactTableLive_walk (w : World) (a : Option Addr) (cap : Nat) (ts : List Th) (hT : RowT w a ts) (t v : Int) (rr wr k : Bool) :
    Calls Try.prog 10 #[.slice a ts.length cap, .agg #[.int .i64 t, .int .i64 v, .bool rr, .bool wr, .bool k]] w fun e w' => e = .returned (.bool true) ∧ Below w.heap.size w w' := by
  have tt : Below w.heap.size w w := Below.refl _ _
  have hA := own_new w (.cells #[.int .i64 t, .int .i64 v, .bool rr, .bool wr, .bool k] 58)
  have CZ := hid (fun u (hu : Below w.heap.size w u) => szThingS_any a cap ts u (hT.below hu))
  have CT := hid (fun u (hu : Below w.heap.size w u) => toThingS_any a cap ts u (hT.below hu))
  obtain ⟨bb, ebb⟩ : ∃ bb, bb = tblLive ts ⟨t, v, rr, wr, k⟩ := ⟨_, rfl⟩
  have CS := fun B c u (h : RowT u B ts) => stableLive_any B c ts ⟨t, v, rr, wr, k⟩ u h
  have CI := fun B c u (h : RowT u B ts) => tableLive_any B c ts ⟨t, v, rr, wr, k⟩ u h
  have CE := hid (fun B B' c c' u (h : RowT u B ts) (h' : RowT u B' ts) => eqThingS_same B B' c c' ts u h h')
  rw [← ebb] at CS CI
  dsimp only at CS CI
  clear hT ebb
  obtain ⟨n, en⟩ : ∃ n, n = ts.length := ⟨_, rfl⟩
  rw [← en] at CZ CT CS CI CE ⊢
  clear en
  replace CS := hid CS
  replace CI := hid CI
  go_enter Try.func10, Try.ntmps10
  go_wp2_with fail
  refine (CZ.out _ (by (have zt := tt.size); (repeat (first | with_reducible exact tt | (with_reducible refine Below.setCell ?_ ?_ _) | (with_reducible refine Below.alloc ?_ ?_ _) | with_reducible refine Below.drew ?_)); (all_goals (first | omega | (simp <;> omega))))).mono ?_
  rintro e w1 ⟨r, rfl, hr, hb⟩
  replace hA := own_below hb hA
  have zt := tt.size
  replace tt : Below w.heap.size w w1 := Below.trans (by (have zt := tt.size); (repeat (first | with_reducible exact tt | (with_reducible refine Below.setCell ?_ ?_ _) | (with_reducible refine Below.alloc ?_ ?_ _) | with_reducible refine Below.drew ?_)); (all_goals (first | omega | (simp <;> omega)))) (hb.mono (by first | omega | (simp <;> omega)))
  clear hb
  obtain ⟨cc_hA, ff_hA⟩ := own_cells hA
  rcases hr with rfl | ⟨h0, hn, hin⟩
  · go_wp2_with fail
    go_ret
    exact ⟨rfl, tt⟩
  go_wp2_with fail
  have hA1 := hid hA
  have zt := tt.size
  go_region_with (first
    | (go_at_call 32; refine (CT.out _ (by (have zt := tt.size); (repeat (first | with_reducible exact tt | (with_reducible refine Below.setCell ?_ ?_ _) | (with_reducible refine Below.alloc ?_ ?_ _) | with_reducible refine Below.drew ?_)); (all_goals (first | omega | (simp <;> omega)))) hn hin).mono ?_; rintro e w2 ⟨B, rfl, hB, hR, hb⟩; replace hA := own_below hb hA; (replace tt : Below w.heap.size w w2 := Below.trans (by (have zt := tt.size); (repeat (first | with_reducible exact tt | (with_reducible refine Below.setCell ?_ ?_ _) | (with_reducible refine Below.alloc ?_ ?_ _) | with_reducible refine Below.drew ?_)); (all_goals (first | omega | (simp <;> omega)))) (hb.mono (by first | omega | (simp <;> omega)))); clear hb hB cc_hA ff_hA; obtain ⟨cc_hA, ff_hA⟩ := own_cells hA; have zt := tt.size)
    | (go_at_call 36; refine (toRight_any _ _ _ _ _ _).mono ?_; rintro e w3 ⟨rfl, hb⟩; replace hA := own_below hb hA; (replace tt : Below w.heap.size w w3 := Below.trans (by (have zt := tt.size); (repeat (first | with_reducible exact tt | (with_reducible refine Below.setCell ?_ ?_ _) | (with_reducible refine Below.alloc ?_ ?_ _) | with_reducible refine Below.drew ?_)); (all_goals (first | omega | (simp <;> omega)))) (hb.mono (by first | omega | (simp <;> omega)))); (try (replace hR : RowT w3 (some ⟨B, 0, none⟩) ts := (by refine RowT.below ?_ hb; exact hR))); clear hb cc_hA ff_hA; obtain ⟨cc_hA, ff_hA⟩ := own_cells hA; have zt := tt.size)
    | (go_at_call 24; refine (CS.out _ _ _ hR).mono ?_; rintro e w4 ⟨rfl, hb⟩; replace hA := own_below hb hA; (replace tt : Below w.heap.size w w4 := Below.trans (by (have zt := tt.size); (repeat (first | with_reducible exact tt | (with_reducible refine Below.setCell ?_ ?_ _) | (with_reducible refine Below.alloc ?_ ?_ _) | with_reducible refine Below.drew ?_)); (all_goals (first | omega | (simp <;> omega)))) (hb.mono (by first | omega | (simp <;> omega)))); clear hb hR cc_hA ff_hA; obtain ⟨cc_hA, ff_hA⟩ := own_cells hA; have zt := tt.size))
  all_goals
    go_wp2_with fail
    refine (CT.out _ (by (have zt := tt.size); (repeat (first | with_reducible exact tt | (with_reducible refine Below.setCell ?_ ?_ _) | (with_reducible refine Below.alloc ?_ ?_ _) | with_reducible refine Below.drew ?_)); (all_goals (first | omega | (simp <;> omega)))) hn hin).mono ?_
    rintro e w5 ⟨B2, rfl, hB2, hR, hb⟩
    replace hA := own_below hb hA
    replace tt : Below w.heap.size w w5 := Below.trans (by (have zt := tt.size); (repeat (first | with_reducible exact tt | (with_reducible refine Below.setCell ?_ ?_ _) | (with_reducible refine Below.alloc ?_ ?_ _) | with_reducible refine Below.drew ?_)); (all_goals (first | omega | (simp <;> omega)))) (hb.mono (by first | omega | (simp <;> omega)))
    clear hb hB2 cc_hA ff_hA
    obtain ⟨cc_hA, ff_hA⟩ := own_cells hA
    go_wp2_with fail
    refine (toRight_any _ _ _ _ _ _).mono ?_
    rintro e w6 ⟨rfl, hb⟩
    replace hR := hR.below hb
    replace tt := tt.trans (hb.mono tt.size)
    clear hb cc_hA ff_hA hA
    go_wp2_with fail
    refine (CI.out _ _ _ hR).mono ?_
    rintro e w7 ⟨rfl, hb⟩
    replace hR := hR.below hb
    replace tt := tt.trans (hb.mono tt.size)
    clear hb
    go_wp2_with fail
    refine (CT.out _ tt hn hin).mono ?_
    rintro e w8 ⟨B3, rfl, hB3, hR3, hb⟩
    replace hR := hR.below hb
    replace tt := tt.trans (hb.mono tt.size)
    clear hb hB3
    go_wp2_with fail
    refine (CE.out _ _ _ _ _ hR hR3).mono ?_
    rintro e w9 ⟨rfl, hb⟩
    replace tt := tt.trans (hb.mono tt.size)
    clear hb hR hR3
    go_wp2_with fail
    go_ret
    exact ⟨rfl, tt⟩
end Go.Proofs.Ytnhilnikhjgfhaa
