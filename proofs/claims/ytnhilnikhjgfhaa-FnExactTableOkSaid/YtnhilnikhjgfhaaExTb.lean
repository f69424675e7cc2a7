/- The walk of the exact law of a table's check. No condition but where the arguments lie. -/
import Derived.Test.YtnhilnikhjgfhaaTo4
import Derived.Test.YtnhilnikhjgfhaaTbl2
namespace Go.Proofs.Ytnhilnikhjgfhaa
open Go.RowKit
set_option linter.unusedVariables false
set_option linter.unusedSimpArgs false

set_option maxHeartbeats 4000000 in
theorem fnExactTableOk_walk (w : World) (a : Option Addr) (cap : Nat) (ts : List Th) (hT : RowT w a ts) :
    Calls Try.prog 8 #[.slice a ts.length cap] w fun e w' => e = .returned (.bool true) ∧ Below w.heap.size w w' := by
  have tt : Below w.heap.size w w := Below.refl _ _
  (try clear hw1 hw2)
  have CZ := hid (szThingS_any a cap ts)
  have CT := hid (fun u (hu : Below w.heap.size w u) => toThingS_any a cap ts u (hT.below hu))
  obtain ⟨bb, ebb⟩ : ∃ bb, bb = tblOk ts := ⟨_, rfl⟩
  have CS := hid (fun B c u (h : RowT u B ts) => stableOk_any B c ts u h)
  have CI := hid (fun B c u (h : RowT u B ts) => tableOk_any B c ts u h)
  have CE := hid (fun B B' c c' u (h : RowT u B ts) (h' : RowT u B' ts) => eqThingS_same B B' c c' ts u h h')
  rw [← ebb] at CS CI
  have HT := hid hT
  clear hT ebb
  obtain ⟨n, en⟩ : ∃ n, n = ts.length := ⟨_, rfl⟩
  rw [← en] at CZ CT CS CI CE ⊢
  clear en
  go_enter Try.func8, Try.ntmps8
  go_wp2_with fail
  refine (CZ.out _ HT.out).mono ?_
  rintro e w1 ⟨r, rfl, hr, hb⟩
  replace tt := tt.trans (hb.mono tt.size)
  clear hb
  rcases hr with rfl | ⟨h0, hn, hin⟩
  · go_wp2_with fail
    go_ret
    exact ⟨rfl, tt⟩
  go_wp2_with fail
  refine (CT.out _ tt hn hin).mono ?_
  rintro e w2 ⟨B, rfl, hB, hR, hb⟩
  replace tt := tt.trans (hb.mono tt.size)
  clear hb hB
  go_wp2_with fail
  refine (CS.out _ _ _ hR).mono ?_
  clear hR
  rintro e w3 ⟨rfl, hb⟩
  replace tt := tt.trans (hb.mono tt.size)
  clear hb
  go_wp2_with fail
  refine (CT.out _ tt hn hin).mono ?_
  rintro e w4 ⟨B2, rfl, hB2, hR, hb⟩
  replace tt := tt.trans (hb.mono tt.size)
  clear hb hB2
  go_wp2_with fail
  refine (CI.out _ _ _ hR).mono ?_
  rintro e w5 ⟨rfl, hb⟩
  replace hR := hR.below hb
  replace tt := tt.trans (hb.mono tt.size)
  clear hb
  go_wp2_with fail
  refine (CT.out _ tt hn hin).mono ?_
  rintro e w6 ⟨B3, rfl, hB3, hR3, hb⟩
  replace hR := hR.below hb
  replace tt := tt.trans (hb.mono tt.size)
  clear hb hB3
  go_wp2_with fail
  refine (CE.out _ _ _ _ _ hR hR3).mono ?_
  rintro e w7 ⟨rfl, hb⟩
  replace tt := tt.trans (hb.mono tt.size)
  clear hb hR hR3
  go_wp2_with fail
  go_ret
  exact ⟨rfl, tt⟩
end Go.Proofs.Ytnhilnikhjgfhaa
