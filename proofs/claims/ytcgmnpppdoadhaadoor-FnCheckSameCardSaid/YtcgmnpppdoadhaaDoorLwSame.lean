/- The walk of the law FnCheckSame, on drawn tables and calls. What it asks is what errors' variable holds. -/
import Derived.Test.YtcgmnpppdoadhaaDoorLwNone
namespace Go.Proofs.YtcgmnpppdoadhaaDoor
set_option maxRecDepth 100000
open Go Go.RowKit
set_option linter.unusedVariables false
set_option linter.unusedSimpArgs false

theorem flow_same {ts : List Th} {j q : Nat} {tj tq : Th} (hj : ts[j]? = some tj) (hq : ts[q]? = some tq) (hs : tq.sec = tj.sec) (hv : tq.vou = tj.vou) (z : Int) :
    flowAt ts z ((q : Int) + 1) = flowAt ts z ((j : Int) + 1) ∧ flowAt ts ((q : Int) + 1) z = flowAt ts ((j : Int) + 1) z := by
  unfold flowAt
  rw [show ((q : Int) + 1 - 1).toNat = q by omega, show ((j : Int) + 1 - 1).toNat = j by omega, hj, hq]
  constructor
  · cases ts[(z - 1).toNat]? <;> simp [hs, hv]
  · cases ts[(z - 1).toNat]? <;> simp [hs, hv]
/-- Asked by another runner of the same label, by the same right, one is told the same. -/
theorem chk_same {ts : List Th} {k bb m bb' m' : Int} {j q l : Nat} {tj tq : Th} {x : Rt} (h : callB ts k ((j : Int) + 1) (l : Int) bb m = true) (hj : ts[j]? = some tj) (hq : ts[q]? = some tq) (hk : tq.kind = 3)
    (hs : tq.sec = tj.sec) (hv : tq.vou = tj.vou) (hxj : tj.slots[l]? = some x) (hxq : tq.slots[l]? = some x) (b0 : 0 ≤ bb') (b1 : bb' ≤ 3) (m0 : 0 ≤ m') (m1 : m' ≤ 99) :
    chkCall ts k ((q : Int) + 1) (l : Int) bb' m' = chkCall ts k ((j : Int) + 1) (l : Int) bb m := by
  have hql : q < ts.length := (List.getElem?_eq_some_iff.1 hq).1
  have h' : callB ts k ((q : Int) + 1) (l : Int) bb' m' = true := by
    have hh := h
    unfold callB at hh ⊢
    simp only [Bool.and_eq_true] at hh ⊢
    obtain ⟨h1, h2, h3⟩ := hh
    have h8 : ts.length ≤ 8 := by
      unfold tblOk at h1
      simp only [Bool.and_eq_true] at h1
      have := h1.1.1
      simp [inB] at this
      omega
    refine ⟨h1, ?_, ?_⟩
    · unfold clOk at h2 ⊢
      simp only [Bool.and_eq_true] at h2 ⊢
      obtain ⟨⟨⟨⟨c1, c2⟩, c3⟩, c4⟩, c5⟩ := h2
      exact ⟨⟨⟨⟨c1, by simp [inB]; omega⟩, c3⟩, by simp [inB]; omega⟩, by simp [inB]; omega⟩
    · rw [kindAtB_at hq, hk]; rfl
  have r1 : rAt ts ((q : Int) + 1) (l : Int) = x := by
    unfold rAt
    rw [show ((q : Int) + 1 - 1).toNat = q by omega, hq]
    simp [hxq]
  have r2 : rAt ts ((j : Int) + 1) (l : Int) = x := by
    unfold rAt
    rw [show ((j : Int) + 1 - 1).toNat = j by omega, hj]
    simp [hxj]
  have f := flow_same hj hq hs hv x.t
  unfold chkCall chkRt
  rw [h, h', r1, r2, f.1, f.2]
set_option maxHeartbeats 4000000 in
set_option maxRecDepth 100000 in
theorem fnCheckSame_walk (v : World) (a : Option Addr) (len cap : Nat) (z : List Int) (hr : IsRow .u8 v a len cap z) (a2 : Option Addr) (len2 cap2 : Nat) (z2 : List Int) (hr2' : IsRow .u8 v a2 len2 cap2 z2) (hg : HandleAt v) :
    Calls Tryd.prog 3 #[.slice a len cap, .slice a2 len2 cap2] v fun e w' => e = .returned (.bool true) ∧ Below v.heap.size v w' := by
  by_cases hl : 1048576 < len
  · go_enter Tryd.func3, Tryd.ntmps3
    go_wp2_with fail
    go_ret
    exact ⟨rfl, Below.refl _ _⟩
  by_cases hl2 : 1048576 < len2
  · go_enter Tryd.func3, Tryd.ntmps3
    go_wp2_with fail
    go_ret
    exact ⟨rfl, Below.refl _ _⟩
  have HG := hid hg
  clear hg hr2'
  go_enter Tryd.func3, Tryd.ntmps3
  go_wp2_with fail
  refine (drawCheckCall_any _ _ _ _ _ hr).mono ?_
  rintro e w ⟨ts, ta, c, k, r, aa, bb, m, rfl, h3, h8, hr1, hr2, hT, t0⟩
  clear hr hl
  have tt : Below w.heap.size w (w.alloc (.cells #[.int .i64 k, .int .i64 r, .int .i64 aa, .int .i64 bb, .int .i64 m] 25)) := (Below.refl _ _).alloc (Nat.le_refl _) _
  have hC := own_new w (.cells #[.int .i64 k, .int .i64 r, .int .i64 aa, .int .i64 bb, .int .i64 m] 25)
  have CI := hid (fun u (hu : Below w.heap.size w u) => checkCall_any ta c ts k r aa bb m u (hT.below hu) ((HG.out.below t0).below hu))
  have CS := hid (fun u (hu : Below w.heap.size w u) => scheckCall_any ta c ts k r aa bb m u (hT.below hu))
  have CT := hid (fun u (hu : Below w.heap.size w u) => stableOk_any ta c ts u (hT.below hu))
  have CC := hid (fun u => scallOk_any k r aa bb m u)
  have CI2 := hid (fun (r' bb' m' : Int) u (hu : Below w.heap.size w u) => checkCall_any ta c ts k r' aa bb' m' u (hT.below hu) ((HG.out.below t0).below hu))
  obtain ⟨b0, eb0⟩ : ∃ b0, b0 = chkCall ts k r aa bb m := ⟨_, rfl⟩
  obtain ⟨b1, eb1⟩ : ∃ b1, b1 = tblOk ts := ⟨_, rfl⟩
  obtain ⟨b2, eb2⟩ : ∃ b2, b2 = clOk k r aa bb m := ⟨_, rfl⟩
  rw [← eb0] at CI CS
  rw [← eb1] at CT
  rw [← eb2] at CC
  cases e12 : (b1 && b2)
  case false =>
    clear eb0 hT eb1 eb2 CI2
    generalize ts.length = n at *
    obtain ⟨cC, fC⟩ := own_cells hC
    cases b1 <;> cases b2
    case true.true => cases e12
    all_goals
      go_wp2_with fail
      (try clear cC fC)
      go_wp2_with (first | (go_at_call 9; refine (CI.out _ (by (have zt := tt.size); (repeat (first | with_reducible exact tt | (with_reducible refine Below.setCell ?_ ?_ _) | (with_reducible refine Below.alloc ?_ ?_ _) | with_reducible refine Below.drew ?_)); (all_goals (first | omega | (simp <;> omega))))).mono ?_; rintro e w' ⟨rfl, hb⟩; (try clear cc_hC ff_hC); (try clear zz_hC zy_hC); have zt := tt.size; (replace tt : Below w.heap.size w w' := by (refine Below.trans ?_ (hb.mono ?_)); (all_goals (repeat (first | with_reducible exact tt | (with_reducible refine Below.setCell ?_ ?_ _) | (with_reducible refine Below.alloc ?_ ?_ _) | with_reducible refine Below.drew ?_)); (all_goals (first | omega | (simp <;> omega))))); clear zt; replace hC := own_below hb (by repeat (first | exact hC | apply own_alloc)); obtain ⟨cc_hC, ff_hC⟩ := own_cells hC; have zz_hC := own_lt hC; have zy_hC := Nat.lt_add_right 1 (own_lt hC); clear hb) | (go_at_call 10; refine (CS.out _ (by (have zt := tt.size); (repeat (first | with_reducible exact tt | (with_reducible refine Below.setCell ?_ ?_ _) | (with_reducible refine Below.alloc ?_ ?_ _) | with_reducible refine Below.drew ?_)); (all_goals (first | omega | (simp <;> omega))))).mono ?_; rintro e w' ⟨rfl, hb⟩; (try clear cc_hC ff_hC); (try clear zz_hC zy_hC); have zt := tt.size; (replace tt : Below w.heap.size w w' := by (refine Below.trans ?_ (hb.mono ?_)); (all_goals (repeat (first | with_reducible exact tt | (with_reducible refine Below.setCell ?_ ?_ _) | (with_reducible refine Below.alloc ?_ ?_ _) | with_reducible refine Below.drew ?_)); (all_goals (first | omega | (simp <;> omega))))); clear zt; replace hC := own_below hb (by repeat (first | exact hC | apply own_alloc)); obtain ⟨cc_hC, ff_hC⟩ := own_cells hC; have zz_hC := own_lt hC; have zy_hC := Nat.lt_add_right 1 (own_lt hC); clear hb) | (go_at_call 11; refine (CT.out _ (by (have zt := tt.size); (repeat (first | with_reducible exact tt | (with_reducible refine Below.setCell ?_ ?_ _) | (with_reducible refine Below.alloc ?_ ?_ _) | with_reducible refine Below.drew ?_)); (all_goals (first | omega | (simp <;> omega))))).mono ?_; rintro e w' ⟨rfl, hb⟩; (try clear cc_hC ff_hC); (try clear zz_hC zy_hC); have zt := tt.size; (replace tt : Below w.heap.size w w' := by (refine Below.trans ?_ (hb.mono ?_)); (all_goals (repeat (first | with_reducible exact tt | (with_reducible refine Below.setCell ?_ ?_ _) | (with_reducible refine Below.alloc ?_ ?_ _) | with_reducible refine Below.drew ?_)); (all_goals (first | omega | (simp <;> omega))))); clear zt; replace hC := own_below hb (by repeat (first | exact hC | apply own_alloc)); obtain ⟨cc_hC, ff_hC⟩ := own_cells hC; have zz_hC := own_lt hC; have zy_hC := Nat.lt_add_right 1 (own_lt hC); clear hb) | (go_at_call 12; refine (CC.out _).mono ?_; rintro e w' ⟨rfl, hb⟩; (try clear cc_hC ff_hC); (try clear zz_hC zy_hC); have zt := tt.size; (replace tt : Below w.heap.size w w' := by (refine Below.trans ?_ (hb.mono ?_)); (all_goals (repeat (first | with_reducible exact tt | (with_reducible refine Below.setCell ?_ ?_ _) | (with_reducible refine Below.alloc ?_ ?_ _) | with_reducible refine Below.drew ?_)); (all_goals (first | omega | (simp <;> omega))))); clear zt; replace hC := own_below hb (by repeat (first | exact hC | apply own_alloc)); obtain ⟨cc_hC, ff_hC⟩ := own_cells hC; have zz_hC := own_lt hC; have zy_hC := Nat.lt_add_right 1 (own_lt hC); clear hb))
      go_ret
      exact ⟨rfl, t0.trans (tt.mono t0.size)⟩
  case true =>
  obtain ⟨rfl, rfl⟩ : b1 = true ∧ b2 = true := by simpa using e12
  clear e12
  have EB0 := hid eb0
  have EB1 := hid eb1
  have EB2 := hid eb2
  clear eb0 eb1 eb2
  obtain ⟨j, rfl⟩ : ∃ j : Nat, r = (j : Int) + 1 := ⟨(r - 1).toNat, by omega⟩
  have hj : j < ts.length := by omega
  have hx : ts[j]? = some ts[j] := by simp [hj]
  obtain ⟨tj, hx⟩ : ∃ tj, ts[j]? = some tj := ⟨_, hx⟩
  obtain ⟨tb, off, rfl, htb, TJ⟩ := hT.get hx
  have FK := fun u (hu : Below w.heap.size w u) => (TJ u hu).knd
  have hwj := wr_small hj hT.len
  obtain ⟨n, en⟩ : ∃ n, n = ts.length := ⟨_, rfl⟩
  rw [← en] at hj h3 h8 hr2 CI CS CT CI2 ⊢
  have EN := hid en
  clear en
  go_wp2_with fail
  refine (CI.out _ tt).mono ?_
  rintro e w1 ⟨rfl, hb⟩
  replace tt := tt.trans (hb.mono tt.size)
  replace hC := own_below hb hC
  clear hb
  obtain ⟨cC, fC⟩ := own_cells hC
  go_wp2_with fail
  refine (CS.out _ tt).mono ?_
  rintro e w2 ⟨rfl, hb⟩
  clear cC fC
  replace tt := tt.trans (hb.mono tt.size)
  replace hC := own_below hb hC
  clear hb
  obtain ⟨cC, fC⟩ := own_cells hC
  go_wp2_with fail
  refine (CT.out _ tt).mono ?_
  rintro e w3 ⟨rfl, hb⟩
  clear cC fC
  replace tt := tt.trans (hb.mono tt.size)
  replace hC := own_below hb hC
  clear hb
  obtain ⟨cC, fC⟩ := own_cells hC
  go_wp2_with fail
  refine (CC.out _).mono ?_
  rintro e w4 ⟨rfl, hb⟩
  clear cC fC
  replace tt := tt.trans (hb.mono tt.size)
  replace hC := own_below hb hC
  clear hb
  obtain ⟨cC, fC⟩ := own_cells hC
  have cK := FK _ tt
  cases e3 : (tj.kind == 3)
  case false =>
    have e3' : (tj.kind != 3) = true := by rw [bne, e3]; rfl
    clear hT TJ FK CI2
    generalize tj.kind = kd at *
    go_wp2_with fail
    refine (CS.out _ tt).mono ?_
    rintro e w5 ⟨rfl, hb⟩
    replace tt := tt.trans (hb.mono tt.size)
    clear hb
    go_wp2_with fail
    go_ret
    exact ⟨rfl, t0.trans (tt.mono t0.size)⟩
  case true =>
  have e3' : (tj.kind != 3) = false := by rw [bne, e3]; rfl
  have hcb : callB ts k ((j : Int) + 1) aa bb m = true := by
    unfold callB
    rw [← EB1.out, ← EB2.out, kindAtB_at hx, e3]; rfl
  obtain ⟨_, _, j', l, t', x, ej, rfl, hx', hl4, hlen, hxl, _, _⟩ := callB_at hcb
  obtain rfl : j = j' := by omega
  obtain rfl : tj = t' := by rw [hx] at hx'; exact Option.some.inj hx'
  have HAT := hid (show ∀ (i : Nat) (t : Th), ts[i]? = some t → At8 w tb (off + i * 8) t from fun i t h => by
    obtain ⟨b', off', e, _, h'⟩ := hT.get h
    cases e
    exact h' w (Below.refl _ _))
  have HGET := hid (show ∀ i, i < n → ∃ t, ts[i]? = some t from fun i hi => ⟨ts[i]'(by rw [← EN.out]; exact hi), by simp⟩)
  have HL4 := hid (show ∀ (i : Nat) (t : Th), ts[i]? = some t → t.kind = 3 → t.slots.length = 4 from fun i t hi hk3 => by
    have h1 := EB1.out.symm
    unfold tblOk at h1
    simp only [Bool.and_eq_true, List.all_eq_true] at h1
    have hok := (h1.1.2 _ (List.mem_of_getElem? hi)).1
    have := ((thOk_iff _ _ _ _ _ _ _ _).1 hok).1
    unfold Lin at this
    omega)
  have HCB := hid hcb
  have HX := hid hx
  have HXL := hid hxl
  obtain ⟨nB, eB, hB4⟩ : ∃ nB : Nat, (len2 : Int) % 4 = nB ∧ nB < 4 := ⟨len2 % 4, by omega, by omega⟩
  obtain ⟨nN, eN, hN90⟩ : ∃ nN : Nat, (len2 : Int) % 90 = nN ∧ nN < 90 := ⟨len2 % 90, by omega, by omega⟩
  have QJ : chkCall ts k ((j : Int) + 1) (l : Int) nB nN = b0 := by
    rw [EB0.out]; exact chk_same hcb hx hx (by simpa using e3) rfl rfl hxl hxl (by omega) (by omega) (by omega) (by omega)
  have CJ := hid (fun u (hu : Below w.heap.size w u) => CI2.out ((j : Int) + 1) nB nN u hu)
  rw [QJ] at CJ
  have HLJ := hid hlen
  clear hT TJ FK hcb hx' hxl ej hx QJ hlen
  generalize tj.kind = kd at *
  have zC := own_lt hC
  have hD := own_new w4 (.cells #[.int .i64 k, .int .i64 ((j : Int) + 1), .int .i64 (l : Int), .int .i64 nB, .int .i64 nN] 25)
  have hB := (Below.refl w4.heap.size w4).alloc (Nat.le_refl _) (.cells #[.int .i64 k, .int .i64 ((j : Int) + 1), .int .i64 (l : Int), .int .i64 nB, .int .i64 nN] 25)
  have tB := tt.trans (hB.mono tt.size)
  go_wp2_with fail
  refine (CJ.out _ tB).mono ?_
  rintro e w5 ⟨rfl, hb⟩
  clear cC fC cK
  replace tt := tB.trans (hb.mono tB.size)
  replace hC := own_below hb (own_below hB hC)
  replace hD := own_below hb hD
  clear hb hB tB
  have hDC : w.heap.size < w4.heap.size := zC
  generalize w4.heap.size = D at *
  go_wp2_with fail
  go_loopw [9] (fun i wr => ∃ q : Nat, i = .int .i64 ((q : Int) + 1) ∧ q ≤ n ∧ Below w.heap.size w wr ∧ wr.heap[w.heap.size]? = some (.cells #[.int .i64 k, .int .i64 ((j : Int) + 1), .int .i64 (l : Int), .int .i64 bb, .int .i64 m] 25 (0, 0)) ∧ ∃ r' : Int, wr.heap[D]? = some (.cells #[.int .i64 k, .int .i64 r', .int .i64 (l : Int), .int .i64 nB, .int .i64 nN] 25 (0, 0))) (fun i _ => ((n : Int) + 1 - intOf i).toNat)
  case atStart => exact ⟨0, rfl, by omega, tt, hC, _, hD⟩
  case round =>
    clear tt hC hD
    obtain ⟨q, rfl, hqn, tt, hC, r', hD⟩ := hrel
    by_cases hq : q < n
    · obtain ⟨tq, hxq⟩ := HGET.out q hq
      have hwq := wr_small hq (show n ≤ 9223372036854775807 by omega)
      obtain ⟨sa, sc, qa, qc, c0, c1, c2, _, _, c5, _, _, hR, _⟩ := HAT.out q tq hxq
      obtain ⟨sa', sc', qa', qc', _, d1, d2, _, _, d5, _, _, hR', _⟩ := HAT.out j tj HX.out
      have F0 := fun u (hu : Below w.heap.size w u) => (hu.cell (p := ⟨tb, off + q * 8, none⟩) htb).trans c0
      have F1 := fun u (hu : Below w.heap.size w u) => (hu.cell (p := ⟨tb, off + q * 8 + 1, none⟩) htb).trans c1
      have F2 := fun u (hu : Below w.heap.size w u) => (hu.cell (p := ⟨tb, off + q * 8 + 2, none⟩) htb).trans c2
      have F5 := fun u (hu : Below w.heap.size w u) => (hu.cell (p := ⟨tb, off + q * 8 + 5, none⟩) htb).trans c5
      have G1 := fun u (hu : Below w.heap.size w u) => (hu.cell (p := ⟨tb, off + j * 8 + 1, none⟩) htb).trans d1
      have G2 := fun u (hu : Below w.heap.size w u) => (hu.cell (p := ⟨tb, off + j * 8 + 2, none⟩) htb).trans d2
      have G5 := fun u (hu : Below w.heap.size w u) => (hu.cell (p := ⟨tb, off + j * 8 + 5, none⟩) htb).trans d5
      rw [HLJ.out] at G5
      clear c0 c1 c2 c5 d1 d2 d5
      go_upto_region 15 with fail
      refine wp_region_quiet_below (by kernel_rfl) (by kernel_rfl) ?_
      cases eq3 : (tq.kind == 3)
      case false =>
        iterate 7 ((with_reducible apply qval); (case hw => exact rfl); (case h => (intro v hu; obtain ⟨_, _⟩ := own_cells (own_below hu hC); have := F0 v (tt.trans (hu.mono tt.size)); go_simp; exact rfl)); (intro K hK; go_simp; (with_reducible refine hK _ ?_); clear hK K))
        (refine qval_skips (.bool false) 14 rfl (by kernel_rfl) ?_ ?_; (intro v hu; go_simp); (intro K hK; simp only [skipAct, List.drop_succ_cons, List.drop_zero] at hK ⊢; go_simp; (with_reducible refine hK _ ?_); clear hK K))
        iterate 1 ((with_reducible apply qval); (case hw => exact rfl); (case h => (intro v hu; obtain ⟨_, _⟩ := own_cells (own_below hu hC); go_simp; exact rfl)); (intro K hK; go_simp; (with_reducible refine hK _ ?_); clear hK K))
        (refine qval_skips (.bool false) 22 rfl (by kernel_rfl) ?_ ?_; (intro v hu; go_simp); (intro K hK; simp only [skipAct, List.drop_succ_cons, List.drop_zero] at hK ⊢; go_simp; (with_reducible refine hK _ ?_); clear hK K))
        iterate 1 ((with_reducible apply qval); (case hw => exact rfl); (case h => (intro v hu; obtain ⟨_, _⟩ := own_cells (own_below hu hC); go_simp; exact rfl)); (intro K hK; go_simp; (with_reducible refine hK _ ?_); clear hK K))
        refine wpQuiet_nil ?_
        intro u hu
        replace tt := tt.trans (hu.mono tt.size)
        replace hC := own_below hu hC
        replace hD := own_below hu hD
        clear hu
        go_wp2_with fail
        go_roundw
        case rel => exact ⟨q + 1, by go_num, by omega, tt, hC, r', hD⟩
        case measure => simp [intOf]; omega
      case true =>
      have hk3 : tq.kind = 3 := by simpa using eq3
      by_cases hs : tq.sec = tj.sec
      case neg =>
        iterate 23 ((with_reducible apply qval); (case hw => exact rfl); (case h => (intro v hu; obtain ⟨_, _⟩ := own_cells (own_below hu hC); have := F0 v (tt.trans (hu.mono tt.size)); have := F1 v (tt.trans (hu.mono tt.size)); have := F2 v (tt.trans (hu.mono tt.size)); have := G1 v (tt.trans (hu.mono tt.size)); have := G2 v (tt.trans (hu.mono tt.size)); go_simp; exact rfl)); (intro K hK; go_simp; (with_reducible refine hK _ ?_); clear hK K))
        (refine qval_skips (.bool false) 22 rfl (by kernel_rfl) ?_ ?_; (intro v hu; go_simp); (intro K hK; simp only [skipAct, List.drop_succ_cons, List.drop_zero] at hK ⊢; go_simp; (with_reducible refine hK _ ?_); clear hK K))
        iterate 1 ((with_reducible apply qval); (case hw => exact rfl); (case h => (intro v hu; obtain ⟨_, _⟩ := own_cells (own_below hu hC); go_simp; exact rfl)); (intro K hK; go_simp; (with_reducible refine hK _ ?_); clear hK K))
        refine wpQuiet_nil ?_
        intro u hu
        replace tt := tt.trans (hu.mono tt.size)
        replace hC := own_below hu hC
        replace hD := own_below hu hD
        clear hu
        go_wp2_with fail
        go_roundw
        case rel => exact ⟨q + 1, by go_num, by omega, tt, hC, r', hD⟩
        case measure => simp [intOf]; omega
      by_cases hv : tq.vou = tj.vou
      case neg =>
        iterate 23 ((with_reducible apply qval); (case hw => exact rfl); (case h => (intro v hu; obtain ⟨_, _⟩ := own_cells (own_below hu hC); have := F0 v (tt.trans (hu.mono tt.size)); have := F1 v (tt.trans (hu.mono tt.size)); have := F2 v (tt.trans (hu.mono tt.size)); have := G1 v (tt.trans (hu.mono tt.size)); have := G2 v (tt.trans (hu.mono tt.size)); go_simp; exact rfl)); (intro K hK; go_simp; (with_reducible refine hK _ ?_); clear hK K))
        (refine qval_skips (.bool false) 22 rfl (by kernel_rfl) ?_ ?_; (intro v hu; go_simp); (intro K hK; simp only [skipAct, List.drop_succ_cons, List.drop_zero] at hK ⊢; go_simp; (with_reducible refine hK _ ?_); clear hK K))
        iterate 1 ((with_reducible apply qval); (case hw => exact rfl); (case h => (intro v hu; obtain ⟨_, _⟩ := own_cells (own_below hu hC); go_simp; exact rfl)); (intro K hK; go_simp; (with_reducible refine hK _ ?_); clear hK K))
        refine wpQuiet_nil ?_
        intro u hu
        replace tt := tt.trans (hu.mono tt.size)
        replace hC := own_below hu hC
        replace hD := own_below hu hD
        clear hu
        go_wp2_with fail
        go_roundw
        case rel => exact ⟨q + 1, by go_num, by omega, tt, hC, r', hD⟩
        case measure => simp [intOf]; omega
      have hl4q := HL4.out q tq hxq hk3
      have QX := hid hxq
      rw [hl4q] at F5
      obtain ⟨g, go_, xq, rfl, hxlq, hg, x0, x1, x2, x3, x4⟩ := hR.at (k := l) (by omega)
      obtain ⟨g', go', xj, rfl, hxlj, hg', y0, y1, y2, y3, y4⟩ := hR'.at (k := l) (by rw [HLJ.out]; omega)
      have hl4' : (l : Int) < 4 := by omega
      have X0 := fun u (hu : Below w.heap.size w u) => (hu.cell (p := ⟨g, _, none⟩) hg).trans x0
      have X1 := fun u (hu : Below w.heap.size w u) => (hu.cell (p := ⟨g, _, none⟩) hg).trans x1
      have X2 := fun u (hu : Below w.heap.size w u) => (hu.cell (p := ⟨g, _, none⟩) hg).trans x2
      have X3 := fun u (hu : Below w.heap.size w u) => (hu.cell (p := ⟨g, _, none⟩) hg).trans x3
      have X4 := fun u (hu : Below w.heap.size w u) => (hu.cell (p := ⟨g, _, none⟩) hg).trans x4
      have Y0 := fun u (hu : Below w.heap.size w u) => (hu.cell (p := ⟨g', _, none⟩) hg').trans y0
      have Y1 := fun u (hu : Below w.heap.size w u) => (hu.cell (p := ⟨g', _, none⟩) hg').trans y1
      have Y2 := fun u (hu : Below w.heap.size w u) => (hu.cell (p := ⟨g', _, none⟩) hg').trans y2
      have Y3 := fun u (hu : Below w.heap.size w u) => (hu.cell (p := ⟨g', _, none⟩) hg').trans y3
      have Y4 := fun u (hu : Below w.heap.size w u) => (hu.cell (p := ⟨g', _, none⟩) hg').trans y4
      obtain ⟨at_, av, ar, aw, ak⟩ := xq
      obtain ⟨bt, bv, br, bw, bk⟩ := xj
      dsimp only at X0 X1 X2 X3 X4 Y0 Y1 Y2 Y3 Y4
      have QXL := hid hxlq
      have JXL := hid hxlj
      clear hR hR' hxlq hxlj hxq x0 x1 x2 x3 x4 y0 y1 y2 y3 y4
      by_cases h_bt : at_ = bt
      case neg =>
        iterate 47 ((with_reducible apply qval); (case hw => exact rfl); (case h => (intro v hu; obtain ⟨_, _⟩ := own_cells (own_below hu hC); have := F0 v (tt.trans (hu.mono tt.size)); have := F1 v (tt.trans (hu.mono tt.size)); have := F2 v (tt.trans (hu.mono tt.size)); have := F5 v (tt.trans (hu.mono tt.size)); have := G1 v (tt.trans (hu.mono tt.size)); have := G2 v (tt.trans (hu.mono tt.size)); have := G5 v (tt.trans (hu.mono tt.size)); have := X0 v (tt.trans (hu.mono tt.size)); have := X1 v (tt.trans (hu.mono tt.size)); have := X2 v (tt.trans (hu.mono tt.size)); have := X3 v (tt.trans (hu.mono tt.size)); have := X4 v (tt.trans (hu.mono tt.size)); have := Y0 v (tt.trans (hu.mono tt.size)); have := Y1 v (tt.trans (hu.mono tt.size)); have := Y2 v (tt.trans (hu.mono tt.size)); have := Y3 v (tt.trans (hu.mono tt.size)); have := Y4 v (tt.trans (hu.mono tt.size)); go_simp; exact rfl)); (intro K hK; go_simp; (with_reducible refine hK _ ?_); clear hK K))
        refine wpQuiet_nil ?_
        intro u hu
        replace tt := tt.trans (hu.mono tt.size)
        replace hC := own_below hu hC
        replace hD := own_below hu hD
        clear hu
        go_wp2_with fail
        go_roundw
        case rel => exact ⟨q + 1, by go_num, by omega, tt, hC, r', hD⟩
        case measure => simp [intOf]; omega
      by_cases h_bv : av = bv
      case neg =>
        iterate 47 ((with_reducible apply qval); (case hw => exact rfl); (case h => (intro v hu; obtain ⟨_, _⟩ := own_cells (own_below hu hC); have := F0 v (tt.trans (hu.mono tt.size)); have := F1 v (tt.trans (hu.mono tt.size)); have := F2 v (tt.trans (hu.mono tt.size)); have := F5 v (tt.trans (hu.mono tt.size)); have := G1 v (tt.trans (hu.mono tt.size)); have := G2 v (tt.trans (hu.mono tt.size)); have := G5 v (tt.trans (hu.mono tt.size)); have := X0 v (tt.trans (hu.mono tt.size)); have := X1 v (tt.trans (hu.mono tt.size)); have := X2 v (tt.trans (hu.mono tt.size)); have := X3 v (tt.trans (hu.mono tt.size)); have := X4 v (tt.trans (hu.mono tt.size)); have := Y0 v (tt.trans (hu.mono tt.size)); have := Y1 v (tt.trans (hu.mono tt.size)); have := Y2 v (tt.trans (hu.mono tt.size)); have := Y3 v (tt.trans (hu.mono tt.size)); have := Y4 v (tt.trans (hu.mono tt.size)); go_simp; exact rfl)); (intro K hK; go_simp; (with_reducible refine hK _ ?_); clear hK K))
        refine wpQuiet_nil ?_
        intro u hu
        replace tt := tt.trans (hu.mono tt.size)
        replace hC := own_below hu hC
        replace hD := own_below hu hD
        clear hu
        go_wp2_with fail
        go_roundw
        case rel => exact ⟨q + 1, by go_num, by omega, tt, hC, r', hD⟩
        case measure => simp [intOf]; omega
      by_cases h_br : ar = br
      case neg =>
        iterate 47 ((with_reducible apply qval); (case hw => exact rfl); (case h => (intro v hu; obtain ⟨_, _⟩ := own_cells (own_below hu hC); have := F0 v (tt.trans (hu.mono tt.size)); have := F1 v (tt.trans (hu.mono tt.size)); have := F2 v (tt.trans (hu.mono tt.size)); have := F5 v (tt.trans (hu.mono tt.size)); have := G1 v (tt.trans (hu.mono tt.size)); have := G2 v (tt.trans (hu.mono tt.size)); have := G5 v (tt.trans (hu.mono tt.size)); have := X0 v (tt.trans (hu.mono tt.size)); have := X1 v (tt.trans (hu.mono tt.size)); have := X2 v (tt.trans (hu.mono tt.size)); have := X3 v (tt.trans (hu.mono tt.size)); have := X4 v (tt.trans (hu.mono tt.size)); have := Y0 v (tt.trans (hu.mono tt.size)); have := Y1 v (tt.trans (hu.mono tt.size)); have := Y2 v (tt.trans (hu.mono tt.size)); have := Y3 v (tt.trans (hu.mono tt.size)); have := Y4 v (tt.trans (hu.mono tt.size)); go_simp; exact rfl)); (intro K hK; go_simp; (with_reducible refine hK _ ?_); clear hK K))
        refine wpQuiet_nil ?_
        intro u hu
        replace tt := tt.trans (hu.mono tt.size)
        replace hC := own_below hu hC
        replace hD := own_below hu hD
        clear hu
        go_wp2_with fail
        go_roundw
        case rel => exact ⟨q + 1, by go_num, by omega, tt, hC, r', hD⟩
        case measure => simp [intOf]; omega
      by_cases h_bw : aw = bw
      case neg =>
        iterate 47 ((with_reducible apply qval); (case hw => exact rfl); (case h => (intro v hu; obtain ⟨_, _⟩ := own_cells (own_below hu hC); have := F0 v (tt.trans (hu.mono tt.size)); have := F1 v (tt.trans (hu.mono tt.size)); have := F2 v (tt.trans (hu.mono tt.size)); have := F5 v (tt.trans (hu.mono tt.size)); have := G1 v (tt.trans (hu.mono tt.size)); have := G2 v (tt.trans (hu.mono tt.size)); have := G5 v (tt.trans (hu.mono tt.size)); have := X0 v (tt.trans (hu.mono tt.size)); have := X1 v (tt.trans (hu.mono tt.size)); have := X2 v (tt.trans (hu.mono tt.size)); have := X3 v (tt.trans (hu.mono tt.size)); have := X4 v (tt.trans (hu.mono tt.size)); have := Y0 v (tt.trans (hu.mono tt.size)); have := Y1 v (tt.trans (hu.mono tt.size)); have := Y2 v (tt.trans (hu.mono tt.size)); have := Y3 v (tt.trans (hu.mono tt.size)); have := Y4 v (tt.trans (hu.mono tt.size)); go_simp; exact rfl)); (intro K hK; go_simp; (with_reducible refine hK _ ?_); clear hK K))
        refine wpQuiet_nil ?_
        intro u hu
        replace tt := tt.trans (hu.mono tt.size)
        replace hC := own_below hu hC
        replace hD := own_below hu hD
        clear hu
        go_wp2_with fail
        go_roundw
        case rel => exact ⟨q + 1, by go_num, by omega, tt, hC, r', hD⟩
        case measure => simp [intOf]; omega
      by_cases h_bk : ak = bk
      case neg =>
        iterate 47 ((with_reducible apply qval); (case hw => exact rfl); (case h => (intro v hu; obtain ⟨_, _⟩ := own_cells (own_below hu hC); have := F0 v (tt.trans (hu.mono tt.size)); have := F1 v (tt.trans (hu.mono tt.size)); have := F2 v (tt.trans (hu.mono tt.size)); have := F5 v (tt.trans (hu.mono tt.size)); have := G1 v (tt.trans (hu.mono tt.size)); have := G2 v (tt.trans (hu.mono tt.size)); have := G5 v (tt.trans (hu.mono tt.size)); have := X0 v (tt.trans (hu.mono tt.size)); have := X1 v (tt.trans (hu.mono tt.size)); have := X2 v (tt.trans (hu.mono tt.size)); have := X3 v (tt.trans (hu.mono tt.size)); have := X4 v (tt.trans (hu.mono tt.size)); have := Y0 v (tt.trans (hu.mono tt.size)); have := Y1 v (tt.trans (hu.mono tt.size)); have := Y2 v (tt.trans (hu.mono tt.size)); have := Y3 v (tt.trans (hu.mono tt.size)); have := Y4 v (tt.trans (hu.mono tt.size)); go_simp; exact rfl)); (intro K hK; go_simp; (with_reducible refine hK _ ?_); clear hK K))
        refine wpQuiet_nil ?_
        intro u hu
        replace tt := tt.trans (hu.mono tt.size)
        replace hC := own_below hu hC
        replace hD := own_below hu hD
        clear hu
        go_wp2_with fail
        go_roundw
        case rel => exact ⟨q + 1, by go_num, by omega, tt, hC, r', hD⟩
        case measure => simp [intOf]; omega
      iterate 47 ((with_reducible apply qval); (case hw => exact rfl); (case h => (intro v hu; obtain ⟨_, _⟩ := own_cells (own_below hu hC); have := F0 v (tt.trans (hu.mono tt.size)); have := F1 v (tt.trans (hu.mono tt.size)); have := F2 v (tt.trans (hu.mono tt.size)); have := F5 v (tt.trans (hu.mono tt.size)); have := G1 v (tt.trans (hu.mono tt.size)); have := G2 v (tt.trans (hu.mono tt.size)); have := G5 v (tt.trans (hu.mono tt.size)); have := X0 v (tt.trans (hu.mono tt.size)); have := X1 v (tt.trans (hu.mono tt.size)); have := X2 v (tt.trans (hu.mono tt.size)); have := X3 v (tt.trans (hu.mono tt.size)); have := X4 v (tt.trans (hu.mono tt.size)); have := Y0 v (tt.trans (hu.mono tt.size)); have := Y1 v (tt.trans (hu.mono tt.size)); have := Y2 v (tt.trans (hu.mono tt.size)); have := Y3 v (tt.trans (hu.mono tt.size)); have := Y4 v (tt.trans (hu.mono tt.size)); go_simp; exact rfl)); (intro K hK; go_simp; (with_reducible refine hK _ ?_); clear hK K))
      refine wpQuiet_nil ?_
      intro u hu
      replace tt := tt.trans (hu.mono tt.size)
      replace hC := own_below hu hC
      replace hD := own_below hu hD
      clear hu F0 F1 F2 F5 G1 G2 G5 X0 Y0 X1 Y1 X2 Y2 X3 Y3 X4 Y4
      have QQ : chkCall ts k ((q : Int) + 1) (l : Int) nB nN = b0 := by
        rw [EB0.out]; exact chk_same HCB.out HX.out QX.out hk3 hs hv JXL.out (by rw [QXL.out, h_bt, h_bv, h_br, h_bw, h_bk]) (by omega) (by omega) (by omega) (by omega)
      have CQ := CI2.out ((q : Int) + 1) nB nN
      rw [QQ] at CQ
      have CQ' := hid CQ
      clear CQ QQ
      obtain ⟨cD, fD⟩ := own_cells hD
      go_upto_region 17 with fail
      have tt2 := tt.setCell (p := ⟨D, 1, none⟩) (show w.heap.size ≤ D by omega) (.int .i64 ((q : Int) + 1))
      have hD2 := own_set hD 1 (.int .i64 ((q : Int) + 1))
      have hC2 := own_set_ne hC (p := ⟨D, 1, none⟩) (show D ≠ w.heap.size by omega) (.int .i64 ((q : Int) + 1))
      clear cD fD hC hD tt
      obtain ⟨cD, fD⟩ := own_cells hD2
      go_wp2_with fail
      refine (CQ'.out _ tt2).mono ?_
      rintro e w6 ⟨rfl, hb⟩
      clear cD fD
      replace tt2 := tt2.trans (hb.mono tt2.size)
      replace hD2 := own_below hb hD2
      replace hC2 := own_below hb hC2
      clear hb
      go_wp2_with fail
      go_roundw
      case rel => exact ⟨q + 1, by go_num, by omega, tt2, hC2, _, hD2⟩
      case measure => simp [intOf]; omega
    · have hqn' : q = n := by omega
      clear hC hD
      go_wp2_with fail
      go_ret
      exact ⟨rfl, t0.trans (tt.mono t0.size)⟩
end Go.Proofs.YtcgmnpppdoadhaaDoor
