/- The walks of the laws FnSees and FnTouches, on drawn tables. No condition. -/
import Derived.Test.YtnhilnikhjgfhaaDFn
import Derived.Test.YtnhilnikhjgfhaaChk
import Derived.Test.YtnhilnikhjgfhaaLabPure
namespace Go.Proofs.Ytnhilnikhjgfhaa
open Go.RowKit
set_option linter.unusedVariables false
set_option linter.unusedSimpArgs false

theorem kindAtB_at {ts : List Th} {j : Nat} {t : Th} (h : ts[j]? = some t) (k : Int) : kindAtB ts ((j : Int) + 1) k = (t.kind == k) := by
  have hj : j < ts.length := (List.getElem?_eq_some_iff.1 h).1
  unfold kindAtB
  rw [show ((j : Int) + 1 - 1).toNat = j by omega, h]
  have : inB ((j : Int) + 1) 1 ts.length = true := by simp [inB]; omega
  simp [this]
set_option maxHeartbeats 4000000 in
set_option maxRecDepth 100000 in
theorem fnSees_walk (v : World) (a : Option Addr) (len cap : Nat) (z : List Int) (hr : IsRow .u8 v a len cap z) :
    Calls Try.prog 7 #[.slice a len cap] v fun e w' => e = .returned (.bool true) ∧ Below v.heap.size v w' := by
  by_cases hl : 1048576 < len
  · go_enter Try.func7, Try.ntmps7
    go_wp2_with fail
    go_ret
    exact ⟨rfl, Below.refl _ _⟩
  go_enter Try.func7, Try.ntmps7
  go_wp2_with fail
  refine (drawCheckSees_any _ _ _ _ _ hr).mono ?_
  rintro e w ⟨ts, ta, c, r, t, rfl, h3, h8, hr1, hr2, ht0, ht9, hT, t0⟩
  clear hr hl
  have tt : Below w.heap.size w w := Below.refl _ _
  obtain ⟨j, rfl⟩ : ∃ j : Nat, r = (j : Int) + 1 := ⟨(r - 1).toNat, by omega⟩
  have hj : j < ts.length := by omega
  have CI := hid (fun u (hu : Below w.heap.size w u) => checkSees_any ta c ts ((j : Int) + 1) t u (hT.below hu))
  have CS := hid (fun u (hu : Below w.heap.size w u) => scheckSees_any ta c ts ((j : Int) + 1) t u (hT.below hu))
  have CO := hid (fun u (hu : Below w.heap.size w u) => stableOk_any ta c ts u (hT.below hu))
  have CJ := hid (fun u (hu : Below w.heap.size w u) => checkSees_any ta c ts ((j : Int) + 1) ((j : Int) + 1) u (hT.below hu))
  have CT := hid (fun u (hu : Below w.heap.size w u) => checkTouches_any ta c ts ((j : Int) + 1) ((j : Int) + 1) u (hT.below hu))
  have hwj := wr_small hj hT.len
  have hxj : ts[j]? = some ts[j] := by simp [hj]
  obtain ⟨b, off, rfl, hb, TJ⟩ := hT.get hxj
  have hkk := kindAtB_at hxj 3
  have hij : inB ((j : Int) + 1) 1 ts.length = true := by simp [inB]; omega
  cases e1 : tblOk ts
  · have q : chkSees ts ((j : Int) + 1) t = false := by simp [chkSees, e1]
    rw [q] at CI CS
    rw [e1] at CO
    clear e1 q CJ CT hT hxj TJ hkk hij hb
    generalize ts.length = m at *
    go_wp2_with (first | (go_at_call 27; refine (CI.out _ (by (have zt := tt.size); (repeat (first | with_reducible exact tt | (with_reducible refine Below.setCell ?_ ?_ _) | (with_reducible refine Below.alloc ?_ ?_ _) | with_reducible refine Below.drew ?_)); (all_goals (first | omega | (simp <;> omega))))).mono ?_; rintro e w' ⟨rfl, hb⟩; skip; have zt := tt.size; (replace tt : Below w.heap.size w w' := by (refine Below.trans ?_ (hb.mono ?_)); (all_goals (repeat (first | with_reducible exact tt | (with_reducible refine Below.setCell ?_ ?_ _) | (with_reducible refine Below.alloc ?_ ?_ _) | with_reducible refine Below.drew ?_)); (all_goals (first | omega | (simp <;> omega))))); clear zt; skip; clear hb) | (go_at_call 28; refine (CS.out _ (by (have zt := tt.size); (repeat (first | with_reducible exact tt | (with_reducible refine Below.setCell ?_ ?_ _) | (with_reducible refine Below.alloc ?_ ?_ _) | with_reducible refine Below.drew ?_)); (all_goals (first | omega | (simp <;> omega))))).mono ?_; rintro e w' ⟨rfl, hb⟩; skip; have zt := tt.size; (replace tt : Below w.heap.size w w' := by (refine Below.trans ?_ (hb.mono ?_)); (all_goals (repeat (first | with_reducible exact tt | (with_reducible refine Below.setCell ?_ ?_ _) | (with_reducible refine Below.alloc ?_ ?_ _) | with_reducible refine Below.drew ?_)); (all_goals (first | omega | (simp <;> omega))))); clear zt; skip; clear hb) | (go_at_call 21; refine (CO.out _ (by (have zt := tt.size); (repeat (first | with_reducible exact tt | (with_reducible refine Below.setCell ?_ ?_ _) | (with_reducible refine Below.alloc ?_ ?_ _) | with_reducible refine Below.drew ?_)); (all_goals (first | omega | (simp <;> omega))))).mono ?_; rintro e w' ⟨rfl, hb⟩; skip; have zt := tt.size; (replace tt : Below w.heap.size w w' := by (refine Below.trans ?_ (hb.mono ?_)); (all_goals (repeat (first | with_reducible exact tt | (with_reducible refine Below.setCell ?_ ?_ _) | (with_reducible refine Below.alloc ?_ ?_ _) | with_reducible refine Below.drew ?_)); (all_goals (first | omega | (simp <;> omega))))); clear zt; skip; clear hb))
    go_ret
    exact ⟨rfl, t0.trans (tt.mono t0.size)⟩
  rw [e1] at CO
  have FK := fun u hu => (TJ u hu).knd
  have FJ := fun u hu => (TJ u hu).lab
  have lj := ok_lab e1 hxj
  have q5 : kindAtB ts ((j : Int) + 1) 3 = true → chkSees ts ((j : Int) + 1) ((j : Int) + 1) = true := fun h => by
    simp only [chkSees, e1, h, hij, Bool.true_and]; rw [flowAt_of hxj hxj]; exact flow_refl lj
  have q6 : kindAtB ts ((j : Int) + 1) 3 = true → chkTouches ts ((j : Int) + 1) ((j : Int) + 1) = true := fun h => by
    simp only [chkTouches, e1, h, hij, Bool.true_and]; rw [flowAt_of hxj hxj]; exact flow_refl lj
  cases e2 : ((ts[j]).kind == 3)
  · have e2' : ((ts[j]).kind != 3) = true := by rw [bne, e2]; rfl
    have q : chkSees ts ((j : Int) + 1) t = false := by simp [chkSees, hkk, e2]
    rw [q] at CI CS
    clear e1 q CJ CT hT hxj TJ hkk hij hb q5 q6 FJ lj
    generalize ts[j] = tj at *
    generalize ts.length = m at *
    go_wp2_with fail
    refine (CI.out _ tt).mono ?_
    rintro e w1 ⟨rfl, hb⟩
    replace tt := tt.trans (hb.mono tt.size)
    clear hb
    go_wp2_with fail
    refine (CS.out _ tt).mono ?_
    rintro e w2 ⟨rfl, hb⟩
    replace tt := tt.trans (hb.mono tt.size)
    clear hb
    go_wp2_with fail
    refine (CO.out _ tt).mono ?_
    rintro e w3 ⟨rfl, hb⟩
    replace tt := tt.trans (hb.mono tt.size)
    clear hb
    have cK := FK _ tt
    go_wp2_with fail
    refine (CS.out _ tt).mono ?_
    rintro e w4 ⟨rfl, hb⟩
    replace tt := tt.trans (hb.mono tt.size)
    clear hb
    go_wp2_with fail
    go_ret
    exact ⟨rfl, t0.trans (tt.mono t0.size)⟩
  have e2' : ((ts[j]).kind != 3) = false := by rw [bne, e2]; rfl
  replace q5 := q5 (hkk.trans e2)
  replace q6 := q6 (hkk.trans e2)
  cases e3 : inB t 1 ts.length
  · have q : chkSees ts ((j : Int) + 1) t = false := by simp [chkSees, e3]
    rw [q] at CI CS
    have e4 : t < 1 ∨ (1 ≤ t ∧ (ts.length : Int) < t) := by simp [inB] at e3; omega
    clear e1 q CJ CT hT hxj TJ hkk hij hb q5 q6 FJ lj e3
    generalize ts[j] = tj at *
    generalize ts.length = m at *
    rcases e4 with e4 | ⟨e4, e5⟩ <;>
    (go_wp2_with fail
     refine (CI.out _ tt).mono ?_
     rintro e w1 ⟨rfl, hb⟩
     replace tt := tt.trans (hb.mono tt.size)
     clear hb
     go_wp2_with fail
     refine (CS.out _ tt).mono ?_
     rintro e w2 ⟨rfl, hb⟩
     replace tt := tt.trans (hb.mono tt.size)
     clear hb
     go_wp2_with fail
     refine (CO.out _ tt).mono ?_
     rintro e w3 ⟨rfl, hb⟩
     replace tt := tt.trans (hb.mono tt.size)
     clear hb
     have cK := FK _ tt
     go_wp2_with fail
     refine (CS.out _ tt).mono ?_
     rintro e w4 ⟨rfl, hb⟩
     replace tt := tt.trans (hb.mono tt.size)
     clear hb
     go_wp2_with fail
     go_ret
     exact ⟨rfl, t0.trans (tt.mono t0.size)⟩)
  obtain ⟨i, rfl, hi⟩ := inB_nat e3
  have hxi : ts[i]? = some ts[i] := by simp [hi]
  have hwi := wr_small hi hT.len
  obtain ⟨b', off', hab, hb', TI⟩ := hT.get hxi
  cases hab
  have FI := fun u hu => (TI u hu).lab
  have q : chkSees ts ((j : Int) + 1) ((i : Int) + 1) = flowB (ts[i]).sec (ts[i]).vou (ts[j]).sec (ts[j]).vou := by
    simp only [chkSees, e1, hkk, e2, e3, Bool.true_and]; exact flowAt_of hxi hxj
  have CL := hid (fun u => labelFlow_any (ts[i]).sec (ts[i]).vou (ts[j]).sec (ts[j]).vou u)
  rw [q] at CI CS
  rw [q5] at CJ
  rw [q6] at CT
  clear e1 q hT hxj hxi TI TJ hkk hij hb hb' q5 q6 lj e3
  generalize flowB (ts[i]).sec (ts[i]).vou (ts[j]).sec (ts[j]).vou = B at *
  generalize ts[i] = ti at *
  generalize ts[j] = tj at *
  generalize ts.length = m at *
  cases B <;>
  (go_wp2_with fail
   refine (CI.out _ tt).mono ?_
   rintro e w1 ⟨rfl, hb⟩
   replace tt := tt.trans (hb.mono tt.size)
   clear hb
   go_wp2_with fail
   refine (CS.out _ tt).mono ?_
   rintro e w2 ⟨rfl, hb⟩
   replace tt := tt.trans (hb.mono tt.size)
   clear hb
   go_wp2_with fail
   refine (CO.out _ tt).mono ?_
   rintro e w3 ⟨rfl, hb⟩
   replace tt := tt.trans (hb.mono tt.size)
   clear hb
   have cK := FK _ tt
   go_upto_region 7 with fail
   clear cK
   refine wp_region_quiet_below (by kernel_rfl) (by kernel_rfl) ?_
   repeat (first
     | ((with_reducible apply qskip); (case hw => exact rfl); (intro K hK; go_simp; refine hK _ ?_; clear hK K))
     | ((with_reducible apply qval); (case hw => exact rfl); (case h => (intro u hu; obtain ⟨_, _⟩ := FI u (tt.trans (hu.mono tt.size)); obtain ⟨_, _⟩ := FJ u (tt.trans (hu.mono tt.size)); go_simp; exact rfl)); (intro K hK; go_simp; refine hK _ ?_; clear hK K))
     | ((with_reducible apply qcall); (case hw => exact rfl); (case h => (intro u hu; go_simp; exact ⟨rfl, rfl⟩)); (case hc => (intro u hu; first | with_reducible exact Calls.in_below hu (CL.out _) | with_reducible exact Calls.in_below hu (CJ.out _ (tt.trans (hu.mono tt.size))) | with_reducible exact Calls.in_below hu (CT.out _ (tt.trans (hu.mono tt.size))))); (intro K hK; go_simp; refine hK _ ?_; clear hK K)))
   refine wpQuiet_nil ?_
   intro u hu
   go_wp2_with fail
   go_ret
   exact ⟨rfl, t0.trans ((tt.trans (hu.mono tt.size)).mono t0.size)⟩)
end Go.Proofs.Ytnhilnikhjgfhaa
