/- The walk of the law FnCheckNone, on drawn tables and calls. What it asks is what errors' variable holds. -/
import Derived.Test.YtcgmnpppdoadhaaDoorLwKinds
import Derived.Test.YtcgmnpppdoadhaaDoorTbForm
import Derived.Test.YtcgmnpppdoadhaaDoorSee
import Derived.Test.YtcgmnpppdoadhaaDoorTo
namespace Go.Proofs.YtcgmnpppdoadhaaDoor
set_option maxRecDepth 100000
open Go Go.RowKit
set_option linter.unusedVariables false
set_option linter.unusedSimpArgs false

/-- A row of rights that a walk owns, in plain data. -/
theorem rowR_own {u : World} {base n c : Nat} {a : Option Addr} {rs : List Rt} (h : u.ownsRow base 38 5 (.slice a n c) n (rs.flatMap Rt.cells)) (hl : rs.length = n) (hn : n ≤ 4) : RowR u a rs := by
  obtain ⟨h2, h3⟩ := h
  rcases h3 with ⟨h3, h4⟩ | ⟨g, cap, cur, h3, hbg, hgg, h5, hcap, hsz, htake⟩
  · cases h3
    exact .inl (List.eq_nil_of_length_eq_zero (by omega))
  · cases h3
    refine .inr ⟨g, 0, rfl, own_lt hgg, by omega, fun i x hx => ?_⟩
    have hi : i < rs.length := (List.getElem?_eq_some_iff.1 hx).1
    have hc : ∀ k, k < 5 → ∀ v, x.cells[k]? = some v → u.cell? ⟨g, 0 + i * 5 + k, none⟩ = some v := by
      intro k hk v hv
      rw [(own_cells hgg).1]
      have e : cur.toList[0 + i * 5 + k]? = (cur.toList.take (n * 5))[0 + i * 5 + k]? := by
        rw [List.getElem?_take, if_pos (by omega)]
      rw [← Array.getElem?_toList, e, htake]
      clear htake e hgg hsz h2 h5 hl hn
      induction rs generalizing i with
      | nil => simp at hi
      | cons a rs ih =>
        cases i with
        | zero =>
          simp at hx
          subst hx
          rw [List.flatMap_cons, List.getElem?_append_left (by simp [Rt.cells]; omega)]
          simpa using hv
        | succ i =>
          rw [List.flatMap_cons, List.getElem?_append_right (by simp [Rt.cells]; omega)]
          have e : 0 + (i + 1) * 5 + k - a.cells.length = 0 + i * 5 + k := by simp [Rt.cells]; omega
          rw [e]
          exact ih i (by simpa using hx) (by simpa using hi)
    exact ⟨hc 0 (by omega) _ rfl, hc 1 (by omega) _ rfl, hc 2 (by omega) _ rfl, hc 3 (by omega) _ rfl, hc 4 (by omega) _ rfl⟩
theorem ownsRow_setR_at {u : World} {base n c g : Nat} {rs : List Rt} (h : u.ownsRow base 38 5 (.slice (some ⟨g, 0, none⟩) n c) n (rs.flatMap Rt.cells)) (j : Nat) (r : Rt) :
    (setR u g (j * 5) r).ownsRow base 38 5 (.slice (some ⟨g, 0, none⟩) n c) n ((rs.set j r).flatMap Rt.cells) := by
  obtain ⟨h2, h3⟩ := h
  rcases h3 with ⟨h3, h4⟩ | ⟨g', cap, cur, h3, hbg, hgg, hn, hcap, hsz, htake⟩
  · cases h3
  · cases h3
    refine ⟨by rw [flat_len] at h2 ⊢; simpa using h2, .inr ⟨g, c, _, rfl, hbg, own_setR hgg _ _, hn, hcap, by simpa using hsz, ?_⟩⟩
    rw [← flat_setR, ← htake]
    simp only [Array.toList_setIfInBounds, List.length_set, List.take_set]
/-- A table that is another one but for one thing's rights, in plain data. -/
theorem rowT_but {w uf : World} {tb off G g2 c2 j : Nat} {ts : List Th} {tj : Th} {rs : List Rt} {curG : Array Value} (hj : ts[j]? = some tj) (hl : ts.length ≤ 9223372036854775807)
    (hT : ∀ i t, ts[i]? = some t → At8 w tb (off + i * 8) t) (hb : Below w.heap.size w uf)
    (hG : uf.heap[G]? = some (.cells curG 36 (0, 0)))
    (hc : ∀ o, o < ts.length * 8 → o ≠ j * 8 + 5 → curG[o]? = w.cell? ⟨tb, off + o, none⟩)
    (h5 : curG[j * 8 + 5]? = some (.slice (some ⟨g2, 0, none⟩) rs.length c2)) (hR : RowR uf (some ⟨g2, 0, none⟩) rs) :
    RowT uf (some ⟨G, 0, none⟩) (ts.set j { tj with slots := rs }) := by
  have hjl : j < ts.length := (List.getElem?_eq_some_iff.1 hj).1
  refine .inr ⟨G, 0, rfl, own_lt hG, by simpa using hl, fun i t ht => ?_⟩
  have cG : ∀ o, uf.cell? ⟨G, o, none⟩ = curG[o]? := (own_cells hG).1
  have hc' : ∀ k i, i < ts.length → k < 8 → i * 8 + k ≠ j * 8 + 5 → ∀ v, w.cell? ⟨tb, off + i * 8 + k, none⟩ = some v → uf.cell? ⟨G, 0 + i * 8 + k, none⟩ = some v := fun k i hi hk hne v hv => by
    rw [Nat.zero_add, cG, hc _ (by omega) hne, ← Nat.add_assoc]; exact hv
  by_cases hij : i = j
  · subst hij
    rw [List.getElem?_set_self hjl] at ht
    cases ht
    obtain ⟨sa, sc, qa, qc, q0, q1, q2, q3, q4, q5, q6, q7, q8, q9⟩ := hT i tj hj
    exact ⟨_, c2, qa, qc, hc' 0 i hjl (by omega) (by omega) _ q0, hc' 1 i hjl (by omega) (by omega) _ q1, hc' 2 i hjl (by omega) (by omega) _ q2, hc' 3 i hjl (by omega) (by omega) _ q3, hc' 4 i hjl (by omega) (by omega) _ q4,
      by rw [Nat.zero_add, cG]; exact h5, hc' 6 i hjl (by omega) (by omega) _ q6, hc' 7 i hjl (by omega) (by omega) _ q7, hR, q9.below hb⟩
  · rw [List.getElem?_set_ne (fun h => hij h.symm)] at ht
    have hil : i < ts.length := (List.getElem?_eq_some_iff.1 ht).1
    obtain ⟨sa, sc, qa, qc, q0, q1, q2, q3, q4, q5, q6, q7, q8, q9⟩ := hT i t ht
    exact ⟨sa, sc, qa, qc, hc' 0 i hil (by omega) (by omega) _ q0, hc' 1 i hil (by omega) (by omega) _ q1, hc' 2 i hil (by omega) (by omega) _ q2, hc' 3 i hil (by omega) (by omega) _ q3, hc' 4 i hil (by omega) (by omega) _ q4,
      hc' 5 i hil (by omega) (by omega) _ q5, hc' 6 i hil (by omega) (by omega) _ q6, hc' 7 i hil (by omega) (by omega) _ q7, q8.below hb, q9.below hb⟩
/-- Without a right nothing is done. -/
theorem chk_none {ts : List Th} {k bb m : Int} {j l : Nat} {tj : Th} {rs : List Rt} (hj : ts[j]? = some tj) (hl : l < rs.length) (h3 : (k == 3) = false) :
    chkCall (ts.set j { tj with slots := rs.set l rt00 }) k ((j : Int) + 1) (l : Int) bb m = -1 := by
  have hjl : j < ts.length := (List.getElem?_eq_some_iff.1 hj).1
  have hr : rAt (ts.set j { tj with slots := rs.set l rt00 }) ((j : Int) + 1) (l : Int) = rt00 := by
    unfold rAt
    rw [show ((j : Int) + 1 - 1).toNat = j by omega, List.getElem?_set_self hjl]
    simp [hl]
  unfold chkCall
  rw [hr, h3]
  cases callB (ts.set j { tj with slots := rs.set l rt00 }) k ((j : Int) + 1) (l : Int) bb m
  · rfl
  · simp [chkRt, rt00]
theorem rt_one (rs : List Rt) : ∀ u ∈ rs.flatMap Rt.cells, u.oneCell' = true := by
  intro u hu
  obtain ⟨x, _, hx⟩ := List.mem_flatMap.1 hu
  simp [Rt.cells] at hx
  rcases hx with rfl | rfl | rfl | rfl | rfl <;> rfl
theorem own_some {u : World} {base : Nat} {e : TypeId} {size : Nat} {v : Value} {n : Nat} {xs : List Value} (hn : 0 < n) (h : u.ownsRow base e size v n xs) : ∃ g c, v = .slice (some ⟨g, 0, none⟩) n c := by
  rcases h.2 with ⟨_, h0⟩ | ⟨g, c, _, h1, _⟩
  · omega
  · exact ⟨g, c, h1⟩
theorem four_of {rs : List Rt} (h : rs.length = 4) : ∃ x0 x1 x2 x3, rs = [x0, x1, x2, x3] := by
  match rs, h with
  | [x0, x1, x2, x3], _ => exact ⟨x0, x1, x2, x3, rfl⟩
set_option maxHeartbeats 4000000 in
set_option maxRecDepth 100000 in
theorem fnCheckNone_walk (v : World) (a : Option Addr) (len cap : Nat) (z : List Int) (hr : IsRow .u8 v a len cap z) (hg : HandleAt v) :
    Calls Tryd.prog 7 #[.slice a len cap] v fun e w' => e = .returned (.bool true) ∧ Below v.heap.size v w' := by
  by_cases hl : 1048576 < len
  · go_enter Tryd.func7, Tryd.ntmps7
    go_wp2_with fail
    go_ret
    exact ⟨rfl, Below.refl _ _⟩
  have HG := hid hg
  clear hg
  go_enter Tryd.func7, Tryd.ntmps7
  go_wp2_with fail
  refine (drawCheckCall_any _ _ _ _ _ hr).mono ?_
  rintro e w ⟨ts, ta, c, k, r, aa, bb, m, rfl, h3, h8, hr1, hr2, hT, t0⟩
  clear hr hl
  have tt : Below w.heap.size w (w.alloc (.cells #[.int .i64 k, .int .i64 r, .int .i64 aa, .int .i64 bb, .int .i64 m] 25)) := (Below.refl _ _).alloc (Nat.le_refl _) _
  have hC := own_new w (.cells #[.int .i64 k, .int .i64 r, .int .i64 aa, .int .i64 bb, .int .i64 m] 25)
  have CI := hid (fun u (hu : Below w.heap.size w u) => checkCall_any ta c ts k r aa bb m u (hT.below hu) ((HG.out.below t0).below hu))
  have CS := hid (fun u (hu : Below w.heap.size w u) => scheckCall_any ta c ts k r aa bb m u (hT.below hu))
  have CT := hid (fun u (hu : Below w.heap.size w u) => stableOk_any ta c ts u (hT.below hu))
  have CC := hid (fun u => scallOk_any k r aa bb m u)
  have CI2 := hid (fun (ta' : Option Addr) (c' : Nat) (ts' : List Th) u (hu : Below w.heap.size w u) (hT' : RowT u ta' ts') => checkCall_any ta' c' ts' k r aa bb m u hT' ((HG.out.below t0).below hu))
  obtain ⟨b0, eb0⟩ : ∃ b0, b0 = chkCall ts k r aa bb m := ⟨_, rfl⟩
  obtain ⟨b1, eb1⟩ : ∃ b1, b1 = tblOk ts := ⟨_, rfl⟩
  obtain ⟨b2, eb2⟩ : ∃ b2, b2 = clOk k r aa bb m := ⟨_, rfl⟩
  rw [← eb0] at CI CS
  rw [← eb1] at CT
  rw [← eb2] at CC
  have hF : (b1 && b2) = false → True := fun _ => trivial
  cases e12 : (b1 && b2)
  case false =>
    clear eb0 hT eb1 eb2 CI2
    generalize ts.length = n at *
    obtain ⟨cC, fC⟩ := own_cells hC
    cases b1 <;> cases b2
    case true.true => cases e12
    all_goals
      go_wp2_with fail
      (try clear cC fC)
      go_wp2_with (first | (go_at_call 9; refine (CI.out _ (by (have zt := tt.size); (repeat (first | with_reducible exact tt | (with_reducible refine Below.setCell ?_ ?_ _) | (with_reducible refine Below.alloc ?_ ?_ _) | with_reducible refine Below.drew ?_)); (all_goals (first | omega | (simp <;> omega))))).mono ?_; rintro e w' ⟨rfl, hb⟩; (try clear cc_hC ff_hC); (try clear zz_hC zy_hC); have zt := tt.size; (replace tt : Below w.heap.size w w' := by (refine Below.trans ?_ (hb.mono ?_)); (all_goals (repeat (first | with_reducible exact tt | (with_reducible refine Below.setCell ?_ ?_ _) | (with_reducible refine Below.alloc ?_ ?_ _) | with_reducible refine Below.drew ?_)); (all_goals (first | omega | (simp <;> omega))))); clear zt; replace hC := own_below hb (by repeat (first | exact hC | apply own_alloc)); obtain ⟨cc_hC, ff_hC⟩ := own_cells hC; have zz_hC := own_lt hC; have zy_hC := Nat.lt_add_right 1 (own_lt hC); clear hb) | (go_at_call 10; refine (CS.out _ (by (have zt := tt.size); (repeat (first | with_reducible exact tt | (with_reducible refine Below.setCell ?_ ?_ _) | (with_reducible refine Below.alloc ?_ ?_ _) | with_reducible refine Below.drew ?_)); (all_goals (first | omega | (simp <;> omega))))).mono ?_; rintro e w' ⟨rfl, hb⟩; (try clear cc_hC ff_hC); (try clear zz_hC zy_hC); have zt := tt.size; (replace tt : Below w.heap.size w w' := by (refine Below.trans ?_ (hb.mono ?_)); (all_goals (repeat (first | with_reducible exact tt | (with_reducible refine Below.setCell ?_ ?_ _) | (with_reducible refine Below.alloc ?_ ?_ _) | with_reducible refine Below.drew ?_)); (all_goals (first | omega | (simp <;> omega))))); clear zt; replace hC := own_below hb (by repeat (first | exact hC | apply own_alloc)); obtain ⟨cc_hC, ff_hC⟩ := own_cells hC; have zz_hC := own_lt hC; have zy_hC := Nat.lt_add_right 1 (own_lt hC); clear hb) | (go_at_call 11; refine (CT.out _ (by (have zt := tt.size); (repeat (first | with_reducible exact tt | (with_reducible refine Below.setCell ?_ ?_ _) | (with_reducible refine Below.alloc ?_ ?_ _) | with_reducible refine Below.drew ?_)); (all_goals (first | omega | (simp <;> omega))))).mono ?_; rintro e w' ⟨rfl, hb⟩; (try clear cc_hC ff_hC); (try clear zz_hC zy_hC); have zt := tt.size; (replace tt : Below w.heap.size w w' := by (refine Below.trans ?_ (hb.mono ?_)); (all_goals (repeat (first | with_reducible exact tt | (with_reducible refine Below.setCell ?_ ?_ _) | (with_reducible refine Below.alloc ?_ ?_ _) | with_reducible refine Below.drew ?_)); (all_goals (first | omega | (simp <;> omega))))); clear zt; replace hC := own_below hb (by repeat (first | exact hC | apply own_alloc)); obtain ⟨cc_hC, ff_hC⟩ := own_cells hC; have zz_hC := own_lt hC; have zy_hC := Nat.lt_add_right 1 (own_lt hC); clear hb) | (go_at_call 12; refine (CC.out _).mono ?_; rintro e w' ⟨rfl, hb⟩; (try clear cc_hC ff_hC); (try clear zz_hC zy_hC); have zt := tt.size; (replace tt : Below w.heap.size w w' := by (refine Below.trans ?_ (hb.mono ?_)); (all_goals (repeat (first | with_reducible exact tt | (with_reducible refine Below.setCell ?_ ?_ _) | (with_reducible refine Below.alloc ?_ ?_ _) | with_reducible refine Below.drew ?_)); (all_goals (first | omega | (simp <;> omega))))); clear zt; replace hC := own_below hb (by repeat (first | exact hC | apply own_alloc)); obtain ⟨cc_hC, ff_hC⟩ := own_cells hC; have zz_hC := own_lt hC; have zy_hC := Nat.lt_add_right 1 (own_lt hC); clear hb))
      go_ret
      exact ⟨rfl, t0.trans (tt.mono t0.size)⟩
  case true =>
  obtain ⟨rfl, rfl⟩ : b1 = true ∧ b2 = true := by simpa using e12
  clear e12 hF
  have EB0 := hid eb0
  have EB1 := hid eb1
  have EB2 := hid eb2
  clear eb0 eb1 eb2
  obtain ⟨j, rfl⟩ : ∃ j : Nat, r = (j : Int) + 1 := ⟨(r - 1).toNat, by omega⟩
  have hj : j < ts.length := by omega
  have hx : ts[j]? = some ts[j] := by simp [hj]
  obtain ⟨tj, hx⟩ : ∃ tj, ts[j]? = some tj := ⟨_, hx⟩
  obtain ⟨tb, off, rfl, htb, TJ⟩ := hT.get hx
  have FK := fun u (hu : Below w.heap.size w u) => (TJ u hu).knd
  have hwj := wr_small hj hT.len
  obtain ⟨n, en⟩ : ∃ n, n = ts.length := ⟨_, rfl⟩
  rw [← en] at hj h3 h8 hr2 CI CS CT ⊢
  have EN := hid en
  clear en
  go_wp2_with fail
  refine (CI.out _ tt).mono ?_
  rintro e w1 ⟨rfl, hb⟩
  replace tt := tt.trans (hb.mono tt.size)
  replace hC := own_below hb hC
  clear hb
  obtain ⟨cC, fC⟩ := own_cells hC
  go_wp2_with fail
  refine (CS.out _ tt).mono ?_
  rintro e w2 ⟨rfl, hb⟩
  clear cC fC
  replace tt := tt.trans (hb.mono tt.size)
  replace hC := own_below hb hC
  clear hb
  obtain ⟨cC, fC⟩ := own_cells hC
  go_wp2_with fail
  refine (CT.out _ tt).mono ?_
  rintro e w3 ⟨rfl, hb⟩
  clear cC fC
  replace tt := tt.trans (hb.mono tt.size)
  replace hC := own_below hb hC
  clear hb
  obtain ⟨cC, fC⟩ := own_cells hC
  go_wp2_with fail
  refine (CC.out _).mono ?_
  rintro e w4 ⟨rfl, hb⟩
  clear cC fC
  replace tt := tt.trans (hb.mono tt.size)
  replace hC := own_below hb hC
  clear hb
  obtain ⟨cC, fC⟩ := own_cells hC
  have cK := FK _ tt
  cases e3 : (tj.kind == 3)
  case false =>
    have e3' : (tj.kind != 3) = true := by rw [bne, e3]; rfl
    clear hT TJ FK CI2
    generalize tj.kind = kd at *
    go_wp2_with fail
    refine (CS.out _ tt).mono ?_
    rintro e w5 ⟨rfl, hb⟩
    replace tt := tt.trans (hb.mono tt.size)
    clear hb
    go_wp2_with fail
    go_ret
    exact ⟨rfl, t0.trans (tt.mono t0.size)⟩
  case true =>
  have e3' : (tj.kind != 3) = false := by rw [bne, e3]; rfl
  have hcb : callB ts k ((j : Int) + 1) aa bb m = true := by
    unfold callB
    rw [← EB1.out, ← EB2.out, kindAtB_at hx, e3]; rfl
  cases ek : (k == 3)
  case true =>
    obtain rfl : b0 = 0 := by rw [EB0.out]; simp [chkCall, hcb, ek]
    clear hT TJ FK CI2 hcb
    generalize tj.kind = kd at *
    go_wp2_with fail
    go_ret
    exact ⟨rfl, t0.trans (tt.mono t0.size)⟩
  case false =>
  obtain ⟨_, _, j', l, t', x, ej, rfl, hx', hl4, hlen, hxl, _, _⟩ := callB_at hcb
  obtain rfl : j = j' := by omega
  obtain rfl : tj = t' := by rw [hx] at hx'; exact Option.some.inj hx'
  obtain ⟨x0, x1, x2, x3, ers⟩ := four_of hlen
  obtain ⟨sa, sc, qa, qc, _, _, _, _, _, c5, _, _, hR, _⟩ := TJ w (Below.refl _ _)
  rw [hlen] at c5
  rw [ers] at hR
  obtain ⟨g, go_, rfl, hg, H4⟩ := hR.four
  have fSl := fun u (hu : Below w.heap.size w u) => (hu.cell (p := ⟨tb, off + j * 8 + 5, none⟩) htb).trans c5
  have HAT := hid (show ∀ i t, ts[i]? = some t → At8 w tb (off + i * 8) t from fun i t h => by
    obtain ⟨b', off', e, _, h'⟩ := hT.get h
    cases e
    exact h' w (Below.refl _ _))
  obtain ⟨news, hnl, hnc, hn1⟩ := rowCells (w := w) (b := tb) (off := off) (n := n) (fun i hi => ⟨ts[i]'(by rw [← EN.out]; exact hi), HAT.out i _ (by simp)⟩)
  have HX := hid hx
  have ERS := hid ers
  have HTL := hid hT.len
  have HNC := hid hnc
  clear hT TJ FK hcb hx' hxl ej hR c5 hlen ers hx
  have zC := own_lt hC
  have hE := own_new w4 (.cells #[] 36)
  have hB := (Below.refl w4.heap.size w4).alloc (Nat.le_refl _) (.cells #[] 36)
  have hown : (w4.alloc (.cells #[] 36)).ownsRow (w.heap.size + 1) 36 8 (.slice (some ⟨w4.heap.size, 0, none⟩) 0 0) 0 [] := ⟨rfl, .inr ⟨w4.heap.size, 0, #[], rfl, zC, hE, Nat.le_refl _, by unfold maxLen; omega, rfl, rfl⟩⟩
  have tB := tt.trans (hB.mono tt.size)
  obtain ⟨i0, hi, hz0, hz1, hz2⟩ := info_parts infoTh
  generalize tj.kind = kd at *
  go_wp2_with (at_builtin; refine wpList_append_own _ rfl _ _ 23 rfl (w.heap.size + 1) 36 i0 (.agg #[.int .i64 0, .int .i64 0, .int .i64 0, .int .i64 0, .int .i64 0, .slice none 0 0, .slice none 0 0, .int .i64 0]) 8 96 (by kernel_rfl) hi hz0 hz1 hz2 rfl (by decide) _ _ _ rfl hown ⟨tb, off, none⟩ n c news rfl hnl (fun j u hu => by rw [Addr.add_lit]; exact (tB.cell (p := ⟨tb, off + j, none⟩) htb).trans (HNC.out j u hu)) hn1 (by unfold maxLen; omega) (by omega) (by simp; omega) ?_)
  intro v' u1 hown' hgr _
  have hbw := grown_below hgr (fun k hk => (hown.lt k hk).1) (by simp; omega)
  replace tt := tB.trans (hbw.mono (by simp))
  replace hC := (hbw.block _ (by omega)).trans (own_below hB hC)
  clear hE hB hown hgr hbw tB cC fC
  try rw [Nat.zero_add] at hown'
  obtain ⟨_, hown'⟩ := hown'
  rcases hown' with ⟨_, h0⟩ | ⟨G, cG, cur, rfl, hbG, hG, hnG, hcm, hcs, htake⟩
  · omega
  go_upto_region 10 with fail
  (try clear cC fC)
  obtain ⟨i1, hi', hz0', hz1', hz2'⟩ := info_parts infoRt
  refine wp_region_each (by kernel_rfl) (by kernel_rfl) (by kernel_rfl) (fun b ac u => ∃ t63 t64 t65 t66 t67 t68 t69 t70 t71 t72 t73 t74 t75 t76 t77 : Value, ac = ⟨#[.slice a len cap, undef, .bool false, .slice (some ⟨tb, off, none⟩) n c, .pointer (some ⟨w.heap.size, 0, none⟩), .int .i64 b0, .slice (some ⟨G, 0, none⟩) n cG, .slice a len cap, .int .i64 (len : Int), .bool (decide (1048576 < (len : Int))), .tuple #[.slice (some ⟨tb, off, none⟩) n c, .agg #[.int .i64 k, .int .i64 ((j : Int) + 1), .int .i64 (l : Int), .int .i64 bb, .int .i64 m]], .slice a len cap, .tuple #[.slice (some ⟨tb, off, none⟩) n c, .agg #[.int .i64 k, .int .i64 ((j : Int) + 1), .int .i64 (l : Int), .int .i64 bb, .int .i64 m]], .slice (some ⟨tb, off, none⟩) n c, .agg #[.int .i64 k, .int .i64 ((j : Int) + 1), .int .i64 (l : Int), .int .i64 bb, .int .i64 m], .slice (some ⟨tb, off, none⟩) n c, .agg #[.int .i64 k, .int .i64 ((j : Int) + 1), .int .i64 (l : Int), .int .i64 bb, .int .i64 m], .int .i64 b0, .int .i64 b0, .slice (some ⟨tb, off, none⟩) n c, .agg #[.int .i64 k, .int .i64 ((j : Int) + 1), .int .i64 (l : Int), .int .i64 bb, .int .i64 m], .int .i64 b0, .bool false, .bool false, .slice (some ⟨tb, off, none⟩) n c, .bool true, .bool false, .bool false, .bool false, .agg #[.int .i64 k, .int .i64 ((j : Int) + 1), .int .i64 (l : Int), .int .i64 bb, .int .i64 m], .bool true, .bool false, .bool false, .bool false, .pointer (some ⟨w.heap.size, 1, none⟩), .int .i64 ((j : Int) + 1), .slice (some ⟨tb, off, none⟩) n c, .int .i64 (n : Int), .bool (decide ((n : Int) < (j : Int) + 1)), .bool (decide ((n : Int) < (j : Int) + 1)), .bool (decide ((n : Int) < (j : Int) + 1)), .slice (some ⟨tb, off, none⟩) n c, .pointer (some ⟨w.heap.size, 1, none⟩), .int .i64 ((j : Int) + 1), .int .i64 (j : Int), .pointer (some ⟨tb, off + j * 8, none⟩), .pointer (some ⟨tb, off + j * 8, none⟩), .int .i64 3, .bool false, .bool (decide ((n : Int) < (j : Int) + 1)), undef, undef, undef, undef, undef, .pointer (some ⟨w.heap.size, 0, none⟩), .int .i64 k, .bool false, undef, undef, .slice (some ⟨w4.heap.size, 0, none⟩) 0 0, .slice (some ⟨tb, off, none⟩) n c, .slice (some ⟨G, 0, none⟩) n cG, t63, t64, t65, t66, t67, t68, t69, t70, t71, t72, t73, t74, t75, t76, t77, undef, undef, undef, undef, undef, undef, undef, undef, undef, undef, undef, undef, undef, undef, undef], []⟩ ∧ ((b[15]? = some false → Below u1.heap.size u1 u)) ∧ (b[0]? = some true → t63 = .slice (some ⟨G, 0, none⟩) n cG) ∧ (b[1]? = some true → t64 = .pointer (some ⟨w.heap.size, 1, none⟩)) ∧ (b[2]? = some true → t65 = .int .i64 ((j : Int) + 1)) ∧ (b[3]? = some true → t66 = .int .i64 (j : Int)) ∧ (b[4]? = some true → (b[12]? = some false → ∃ B : Nat, t67 = .slice (some ⟨B, 0, none⟩) 0 0 ∧ u1.heap.size ≤ B ∧ u.heap[B]? = some (.cells #[] 38 (0, 0)))) ∧ (b[5]? = some true → t68 = .slice (some ⟨tb, off, none⟩) n c) ∧ (b[6]? = some true → t69 = .pointer (some ⟨w.heap.size, 1, none⟩)) ∧ (b[7]? = some true → t70 = .int .i64 ((j : Int) + 1)) ∧ (b[8]? = some true → t71 = .int .i64 (j : Int)) ∧ (b[9]? = some true → t72 = .pointer (some ⟨tb, off + j * 8, none⟩)) ∧ (b[10]? = some true → t73 = .pointer (some ⟨tb, off + j * 8 + 5, none⟩)) ∧ (b[11]? = some true → t74 = .slice (some ⟨g, go_, none⟩) 4 sc) ∧ (b[12]? = some true → ∃ gN cN : Nat, t75 = .slice (some ⟨gN, 0, none⟩) 4 cN ∧ (b[15]? = some false → u.ownsRow u1.heap.size 38 5 (.slice (some ⟨gN, 0, none⟩) 4 cN) 4 ([x0, x1, x2, x3].flatMap Rt.cells))) ∧ (b[13]? = some true → t76 = .pointer (some ⟨G, j * 8, none⟩)) ∧ (b[14]? = some true → t77 = .pointer (some ⟨G, j * 8 + 5, none⟩)) ∧ (b[15]? = some true → ∃ (u0 : World) (gN cN : Nat), Below u1.heap.size u1 u0 ∧ u0.ownsRow u1.heap.size 38 5 (.slice (some ⟨gN, 0, none⟩) 4 cN) 4 ([x0, x1, x2, x3].flatMap Rt.cells) ∧ u = u0.setCell ⟨G, j * 8 + 5, none⟩ (.slice (some ⟨gN, 0, none⟩) 4 cN))) ?h0_1 ⟨?o1_0, ?o1_1, ?o1_2, ?o1_3, ?o1_4, ?o1_5, ?o1_6, ?o1_7, ?o1_8, ?o1_9, ?o1_10, ?o1_11, ?o1_12, ?o1_13, ?o1_14, ?o1_15, trivial⟩ ?hend_1
  case h0_1 => exact ⟨undef, undef, undef, undef, undef, undef, undef, undef, undef, undef, undef, undef, undef, undef, undef, rfl, (fun _ => (Below.refl _ _).drew), by simp, by simp, by simp, by simp, by simp, by simp, by simp, by simp, by simp, by simp, by simp, by simp, by simp, by simp, by simp, by simp⟩
  case o1_0 =>
    rintro b ac u hbl hbi hcl he ⟨t63, t64, t65, t66, t67, t68, t69, t70, t71, t72, t73, t74, t75, t76, t77, rfl, hk, g0, g1, g2, g3, g4, g5, g6, g7, g8, g9, g10, g11, g12, g13, g14, g15⟩ K hK
    clear he
    have hla := last_false (L := 15) hcl hbl rfl (by kernel_rfl) hbi
    go_simp
    exact hK _ _ ⟨_, _, _, _, _, _, _, _, _, _, _, _, _, _, _, rfl, fun _ => hk hla, fun _ => rfl, fun h => g1 (by simpa using h), fun h => g2 (by simpa using h), fun h => g3 (by simpa using h), fun h => (fun g => (fun h12 => g (by simpa using h12))) (g4 (by simpa using h)), fun h => g5 (by simpa using h), fun h => g6 (by simpa using h), fun h => g7 (by simpa using h), fun h => g8 (by simpa using h), fun h => g9 (by simpa using h), fun h => g10 (by simpa using h), fun h => g11 (by simpa using h), fun h => (fun g => (by obtain ⟨gN, cN, e, h⟩ := g; exact ⟨gN, cN, e, fun h15 => h (by simpa using h15)⟩)) (g12 (by simpa using h)), fun h => g13 (by simpa using h), fun h => g14 (by simpa using h), fun h => (fun g => by simp [hla] at h) (g15 (by simpa using h))⟩
  case o1_1 =>
    rintro b ac u hbl hbi hcl he ⟨t63, t64, t65, t66, t67, t68, t69, t70, t71, t72, t73, t74, t75, t76, t77, rfl, hk, g0, g1, g2, g3, g4, g5, g6, g7, g8, g9, g10, g11, g12, g13, g14, g15⟩ K hK
    clear he
    have hla := last_false (L := 15) hcl hbl rfl (by kernel_rfl) hbi
    go_simp
    exact hK _ _ ⟨_, _, _, _, _, _, _, _, _, _, _, _, _, _, _, rfl, fun _ => hk hla, fun h => g0 (by simpa using h), fun _ => rfl, fun h => g2 (by simpa using h), fun h => g3 (by simpa using h), fun h => (fun g => (fun h12 => g (by simpa using h12))) (g4 (by simpa using h)), fun h => g5 (by simpa using h), fun h => g6 (by simpa using h), fun h => g7 (by simpa using h), fun h => g8 (by simpa using h), fun h => g9 (by simpa using h), fun h => g10 (by simpa using h), fun h => g11 (by simpa using h), fun h => (fun g => (by obtain ⟨gN, cN, e, h⟩ := g; exact ⟨gN, cN, e, fun h15 => h (by simpa using h15)⟩)) (g12 (by simpa using h)), fun h => g13 (by simpa using h), fun h => g14 (by simpa using h), fun h => (fun g => by simp [hla] at h) (g15 (by simpa using h))⟩
  case o1_2 =>
    rintro b ac u hbl hbi hcl he ⟨t63, t64, t65, t66, t67, t68, t69, t70, t71, t72, t73, t74, t75, t76, t77, rfl, hk, g0, g1, g2, g3, g4, g5, g6, g7, g8, g9, g10, g11, g12, g13, g14, g15⟩ K hK
    have p1 : b[1]? = some true := by simp [Region.binds] at he; simp [he]
    obtain rfl := g1 p1
    clear he
    have hla := last_false (L := 15) hcl hbl rfl (by kernel_rfl) hbi
    have cC := (own_cells (own_below (hk hla) hC)).1
    have fC := (own_cells (own_below (hk hla) hC)).2
    go_simp
    exact hK _ _ ⟨_, _, _, _, _, _, _, _, _, _, _, _, _, _, _, rfl, fun _ => hk hla, fun h => g0 (by simpa using h), fun h => g1 (by simpa using h), fun _ => rfl, fun h => g3 (by simpa using h), fun h => (fun g => (fun h12 => g (by simpa using h12))) (g4 (by simpa using h)), fun h => g5 (by simpa using h), fun h => g6 (by simpa using h), fun h => g7 (by simpa using h), fun h => g8 (by simpa using h), fun h => g9 (by simpa using h), fun h => g10 (by simpa using h), fun h => g11 (by simpa using h), fun h => (fun g => (by obtain ⟨gN, cN, e, h⟩ := g; exact ⟨gN, cN, e, fun h15 => h (by simpa using h15)⟩)) (g12 (by simpa using h)), fun h => g13 (by simpa using h), fun h => g14 (by simpa using h), fun h => (fun g => by simp [hla] at h) (g15 (by simpa using h))⟩
  case o1_3 =>
    rintro b ac u hbl hbi hcl he ⟨t63, t64, t65, t66, t67, t68, t69, t70, t71, t72, t73, t74, t75, t76, t77, rfl, hk, g0, g1, g2, g3, g4, g5, g6, g7, g8, g9, g10, g11, g12, g13, g14, g15⟩ K hK
    have p2 : b[2]? = some true := by simp [Region.binds] at he; simp [he]
    obtain rfl := g2 p2
    clear he
    have hla := last_false (L := 15) hcl hbl rfl (by kernel_rfl) hbi
    go_simp
    exact hK _ _ ⟨_, _, _, _, _, _, _, _, _, _, _, _, _, _, _, rfl, fun _ => hk hla, fun h => g0 (by simpa using h), fun h => g1 (by simpa using h), fun h => g2 (by simpa using h), fun _ => rfl, fun h => (fun g => (fun h12 => g (by simpa using h12))) (g4 (by simpa using h)), fun h => g5 (by simpa using h), fun h => g6 (by simpa using h), fun h => g7 (by simpa using h), fun h => g8 (by simpa using h), fun h => g9 (by simpa using h), fun h => g10 (by simpa using h), fun h => g11 (by simpa using h), fun h => (fun g => (by obtain ⟨gN, cN, e, h⟩ := g; exact ⟨gN, cN, e, fun h15 => h (by simpa using h15)⟩)) (g12 (by simpa using h)), fun h => g13 (by simpa using h), fun h => g14 (by simpa using h), fun h => (fun g => by simp [hla] at h) (g15 (by simpa using h))⟩
  case o1_4 =>
    rintro b ac u hbl hbi hcl he ⟨t63, t64, t65, t66, t67, t68, t69, t70, t71, t72, t73, t74, t75, t76, t77, rfl, hk, g0, g1, g2, g3, g4, g5, g6, g7, g8, g9, g10, g11, g12, g13, g14, g15⟩ K hK
    clear he
    have hla := last_false (L := 15) hcl hbl rfl (by kernel_rfl) hbi
    go_simp
    have hk' := (hk hla).alloc (hk hla).size (.cells #[] 38)
    exact hK _ _ ⟨_, _, _, _, _, _, _, _, _, _, _, _, _, _, _, rfl, fun _ => hk', fun h => g0 (by simpa using h), fun h => g1 (by simpa using h), fun h => g2 (by simpa using h), fun h => g3 (by simpa using h), fun _ => (fun _ => ⟨_, rfl, (hk hla).size, own_new _ _⟩), fun h => g5 (by simpa using h), fun h => g6 (by simpa using h), fun h => g7 (by simpa using h), fun h => g8 (by simpa using h), fun h => g9 (by simpa using h), fun h => g10 (by simpa using h), fun h => g11 (by simpa using h), fun h => (by have hn := hcl 12 _ rfl (by simpa using h); simp [Region.binds, hbi] at hn), fun h => g13 (by simpa using h), fun h => g14 (by simpa using h), fun h => (fun g => by simp [hla] at h) (g15 (by simpa using h))⟩
  case o1_5 =>
    rintro b ac u hbl hbi hcl he ⟨t63, t64, t65, t66, t67, t68, t69, t70, t71, t72, t73, t74, t75, t76, t77, rfl, hk, g0, g1, g2, g3, g4, g5, g6, g7, g8, g9, g10, g11, g12, g13, g14, g15⟩ K hK
    clear he
    have hla := last_false (L := 15) hcl hbl rfl (by kernel_rfl) hbi
    go_simp
    exact hK _ _ ⟨_, _, _, _, _, _, _, _, _, _, _, _, _, _, _, rfl, fun _ => hk hla, fun h => g0 (by simpa using h), fun h => g1 (by simpa using h), fun h => g2 (by simpa using h), fun h => g3 (by simpa using h), fun h => (fun g => (fun h12 => g (by simpa using h12))) (g4 (by simpa using h)), fun _ => rfl, fun h => g6 (by simpa using h), fun h => g7 (by simpa using h), fun h => g8 (by simpa using h), fun h => g9 (by simpa using h), fun h => g10 (by simpa using h), fun h => g11 (by simpa using h), fun h => (fun g => (by obtain ⟨gN, cN, e, h⟩ := g; exact ⟨gN, cN, e, fun h15 => h (by simpa using h15)⟩)) (g12 (by simpa using h)), fun h => g13 (by simpa using h), fun h => g14 (by simpa using h), fun h => (fun g => by simp [hla] at h) (g15 (by simpa using h))⟩
  case o1_6 =>
    rintro b ac u hbl hbi hcl he ⟨t63, t64, t65, t66, t67, t68, t69, t70, t71, t72, t73, t74, t75, t76, t77, rfl, hk, g0, g1, g2, g3, g4, g5, g6, g7, g8, g9, g10, g11, g12, g13, g14, g15⟩ K hK
    clear he
    have hla := last_false (L := 15) hcl hbl rfl (by kernel_rfl) hbi
    go_simp
    exact hK _ _ ⟨_, _, _, _, _, _, _, _, _, _, _, _, _, _, _, rfl, fun _ => hk hla, fun h => g0 (by simpa using h), fun h => g1 (by simpa using h), fun h => g2 (by simpa using h), fun h => g3 (by simpa using h), fun h => (fun g => (fun h12 => g (by simpa using h12))) (g4 (by simpa using h)), fun h => g5 (by simpa using h), fun _ => rfl, fun h => g7 (by simpa using h), fun h => g8 (by simpa using h), fun h => g9 (by simpa using h), fun h => g10 (by simpa using h), fun h => g11 (by simpa using h), fun h => (fun g => (by obtain ⟨gN, cN, e, h⟩ := g; exact ⟨gN, cN, e, fun h15 => h (by simpa using h15)⟩)) (g12 (by simpa using h)), fun h => g13 (by simpa using h), fun h => g14 (by simpa using h), fun h => (fun g => by simp [hla] at h) (g15 (by simpa using h))⟩
  case o1_7 =>
    rintro b ac u hbl hbi hcl he ⟨t63, t64, t65, t66, t67, t68, t69, t70, t71, t72, t73, t74, t75, t76, t77, rfl, hk, g0, g1, g2, g3, g4, g5, g6, g7, g8, g9, g10, g11, g12, g13, g14, g15⟩ K hK
    have p6 : b[6]? = some true := by simp [Region.binds] at he; simp [he]
    obtain rfl := g6 p6
    clear he
    have hla := last_false (L := 15) hcl hbl rfl (by kernel_rfl) hbi
    have cC := (own_cells (own_below (hk hla) hC)).1
    have fC := (own_cells (own_below (hk hla) hC)).2
    go_simp
    exact hK _ _ ⟨_, _, _, _, _, _, _, _, _, _, _, _, _, _, _, rfl, fun _ => hk hla, fun h => g0 (by simpa using h), fun h => g1 (by simpa using h), fun h => g2 (by simpa using h), fun h => g3 (by simpa using h), fun h => (fun g => (fun h12 => g (by simpa using h12))) (g4 (by simpa using h)), fun h => g5 (by simpa using h), fun h => g6 (by simpa using h), fun _ => rfl, fun h => g8 (by simpa using h), fun h => g9 (by simpa using h), fun h => g10 (by simpa using h), fun h => g11 (by simpa using h), fun h => (fun g => (by obtain ⟨gN, cN, e, h⟩ := g; exact ⟨gN, cN, e, fun h15 => h (by simpa using h15)⟩)) (g12 (by simpa using h)), fun h => g13 (by simpa using h), fun h => g14 (by simpa using h), fun h => (fun g => by simp [hla] at h) (g15 (by simpa using h))⟩
  case o1_8 =>
    rintro b ac u hbl hbi hcl he ⟨t63, t64, t65, t66, t67, t68, t69, t70, t71, t72, t73, t74, t75, t76, t77, rfl, hk, g0, g1, g2, g3, g4, g5, g6, g7, g8, g9, g10, g11, g12, g13, g14, g15⟩ K hK
    have p7 : b[7]? = some true := by simp [Region.binds] at he; simp [he]
    obtain rfl := g7 p7
    clear he
    have hla := last_false (L := 15) hcl hbl rfl (by kernel_rfl) hbi
    go_simp
    exact hK _ _ ⟨_, _, _, _, _, _, _, _, _, _, _, _, _, _, _, rfl, fun _ => hk hla, fun h => g0 (by simpa using h), fun h => g1 (by simpa using h), fun h => g2 (by simpa using h), fun h => g3 (by simpa using h), fun h => (fun g => (fun h12 => g (by simpa using h12))) (g4 (by simpa using h)), fun h => g5 (by simpa using h), fun h => g6 (by simpa using h), fun h => g7 (by simpa using h), fun _ => rfl, fun h => g9 (by simpa using h), fun h => g10 (by simpa using h), fun h => g11 (by simpa using h), fun h => (fun g => (by obtain ⟨gN, cN, e, h⟩ := g; exact ⟨gN, cN, e, fun h15 => h (by simpa using h15)⟩)) (g12 (by simpa using h)), fun h => g13 (by simpa using h), fun h => g14 (by simpa using h), fun h => (fun g => by simp [hla] at h) (g15 (by simpa using h))⟩
  case o1_9 =>
    rintro b ac u hbl hbi hcl he ⟨t63, t64, t65, t66, t67, t68, t69, t70, t71, t72, t73, t74, t75, t76, t77, rfl, hk, g0, g1, g2, g3, g4, g5, g6, g7, g8, g9, g10, g11, g12, g13, g14, g15⟩ K hK
    have p5 : b[5]? = some true := by simp [Region.binds] at he; simp [he]
    have p8 : b[8]? = some true := by simp [Region.binds] at he; simp [he]
    obtain rfl := g5 p5
    obtain rfl := g8 p8
    clear he
    have hla := last_false (L := 15) hcl hbl rfl (by kernel_rfl) hbi
    go_simp
    exact hK _ _ ⟨_, _, _, _, _, _, _, _, _, _, _, _, _, _, _, rfl, fun _ => hk hla, fun h => g0 (by simpa using h), fun h => g1 (by simpa using h), fun h => g2 (by simpa using h), fun h => g3 (by simpa using h), fun h => (fun g => (fun h12 => g (by simpa using h12))) (g4 (by simpa using h)), fun h => g5 (by simpa using h), fun h => g6 (by simpa using h), fun h => g7 (by simpa using h), fun h => g8 (by simpa using h), fun _ => rfl, fun h => g10 (by simpa using h), fun h => g11 (by simpa using h), fun h => (fun g => (by obtain ⟨gN, cN, e, h⟩ := g; exact ⟨gN, cN, e, fun h15 => h (by simpa using h15)⟩)) (g12 (by simpa using h)), fun h => g13 (by simpa using h), fun h => g14 (by simpa using h), fun h => (fun g => by simp [hla] at h) (g15 (by simpa using h))⟩
  case o1_10 =>
    rintro b ac u hbl hbi hcl he ⟨t63, t64, t65, t66, t67, t68, t69, t70, t71, t72, t73, t74, t75, t76, t77, rfl, hk, g0, g1, g2, g3, g4, g5, g6, g7, g8, g9, g10, g11, g12, g13, g14, g15⟩ K hK
    have p9 : b[9]? = some true := by simp [Region.binds] at he; simp [he]
    obtain rfl := g9 p9
    clear he
    have hla := last_false (L := 15) hcl hbl rfl (by kernel_rfl) hbi
    go_simp
    exact hK _ _ ⟨_, _, _, _, _, _, _, _, _, _, _, _, _, _, _, rfl, fun _ => hk hla, fun h => g0 (by simpa using h), fun h => g1 (by simpa using h), fun h => g2 (by simpa using h), fun h => g3 (by simpa using h), fun h => (fun g => (fun h12 => g (by simpa using h12))) (g4 (by simpa using h)), fun h => g5 (by simpa using h), fun h => g6 (by simpa using h), fun h => g7 (by simpa using h), fun h => g8 (by simpa using h), fun h => g9 (by simpa using h), fun _ => rfl, fun h => g11 (by simpa using h), fun h => (fun g => (by obtain ⟨gN, cN, e, h⟩ := g; exact ⟨gN, cN, e, fun h15 => h (by simpa using h15)⟩)) (g12 (by simpa using h)), fun h => g13 (by simpa using h), fun h => g14 (by simpa using h), fun h => (fun g => by simp [hla] at h) (g15 (by simpa using h))⟩
  case o1_11 =>
    rintro b ac u hbl hbi hcl he ⟨t63, t64, t65, t66, t67, t68, t69, t70, t71, t72, t73, t74, t75, t76, t77, rfl, hk, g0, g1, g2, g3, g4, g5, g6, g7, g8, g9, g10, g11, g12, g13, g14, g15⟩ K hK
    have p10 : b[10]? = some true := by simp [Region.binds] at he; simp [he]
    obtain rfl := g10 p10
    clear he
    have hla := last_false (L := 15) hcl hbl rfl (by kernel_rfl) hbi
    have cS := fSl u (tt.trans ((hk hla).mono tt.size))
    go_simp
    exact hK _ _ ⟨_, _, _, _, _, _, _, _, _, _, _, _, _, _, _, rfl, fun _ => hk hla, fun h => g0 (by simpa using h), fun h => g1 (by simpa using h), fun h => g2 (by simpa using h), fun h => g3 (by simpa using h), fun h => (fun g => (fun h12 => g (by simpa using h12))) (g4 (by simpa using h)), fun h => g5 (by simpa using h), fun h => g6 (by simpa using h), fun h => g7 (by simpa using h), fun h => g8 (by simpa using h), fun h => g9 (by simpa using h), fun h => g10 (by simpa using h), fun _ => rfl, fun h => (fun g => (by obtain ⟨gN, cN, e, h⟩ := g; exact ⟨gN, cN, e, fun h15 => h (by simpa using h15)⟩)) (g12 (by simpa using h)), fun h => g13 (by simpa using h), fun h => g14 (by simpa using h), fun h => (fun g => by simp [hla] at h) (g15 (by simpa using h))⟩
  case o1_12 =>
    rintro b ac u hbl hbi hcl he ⟨t63, t64, t65, t66, t67, t68, t69, t70, t71, t72, t73, t74, t75, t76, t77, rfl, hk, g0, g1, g2, g3, g4, g5, g6, g7, g8, g9, g10, g11, g12, g13, g14, g15⟩ K hK
    have p4 : b[4]? = some true := by simp [Region.binds] at he; simp [he]
    have p11 : b[11]? = some true := by simp [Region.binds] at he; simp [he]
    obtain hB := g4 p4
    obtain rfl := g11 p11
    clear he
    have hla := last_false (L := 15) hcl hbl rfl (by kernel_rfl) hbi
    obtain ⟨B, rfl, hB0, hB1⟩ := hB hbi
    have hown : u.ownsRow u1.heap.size 38 5 (.slice (some ⟨B, 0, none⟩) 0 0) 0 [] := ⟨rfl, .inr ⟨B, 0, #[], rfl, hB0, hB1, Nat.le_refl _, by unfold maxLen; omega, rfl, rfl⟩⟩
    have hrg := H4 u (tt.trans ((hk hla).mono tt.size))
    refine wp_append_own _ _ _ 33 rfl u1.heap.size 38 i1 (.agg #[.int .i64 0, .int .i64 0, .bool false, .bool false, .bool false]) 5 24 (by kernel_rfl) hi' hz0' hz1' hz2' rfl (by decide) _ _ _ rfl hown ⟨g, go_, none⟩ 4 sc ([x0, x1, x2, x3].flatMap Rt.cells) rfl rfl (fun j v hv => by rw [Addr.add_lit]; exact hrg j v hv) (rt_one _) (by unfold maxLen; omega) (by omega) (hk hla).size ?_
    intro v' u' hown' hgr _
    have hbw := grown_below hgr (fun k hk => (hown.lt k hk).1) (hk hla).size
    try rw [Nat.zero_add] at hown'
    obtain ⟨gN, cN, rfl⟩ := own_some (by omega) hown'
    exact hK _ _ ⟨_, _, _, _, _, _, _, _, _, _, _, _, _, _, _, rfl, fun _ => (hk hla).trans hbw, fun h => g0 (by simpa using h), fun h => g1 (by simpa using h), fun h => g2 (by simpa using h), fun h => g3 (by simpa using h), fun h => (fun g => (fun h12 => by simp [hbl] at h12)) (g4 (by simpa using h)), fun h => g5 (by simpa using h), fun h => g6 (by simpa using h), fun h => g7 (by simpa using h), fun h => g8 (by simpa using h), fun h => g9 (by simpa using h), fun h => g10 (by simpa using h), fun h => g11 (by simpa using h), fun _ => ⟨gN, cN, rfl, fun _ => hown'⟩, fun h => g13 (by simpa using h), fun h => g14 (by simpa using h), fun h => (fun g => by simp [hla] at h) (g15 (by simpa using h))⟩
  case o1_13 =>
    rintro b ac u hbl hbi hcl he ⟨t63, t64, t65, t66, t67, t68, t69, t70, t71, t72, t73, t74, t75, t76, t77, rfl, hk, g0, g1, g2, g3, g4, g5, g6, g7, g8, g9, g10, g11, g12, g13, g14, g15⟩ K hK
    have p0 : b[0]? = some true := by simp [Region.binds] at he; simp [he]
    have p3 : b[3]? = some true := by simp [Region.binds] at he; simp [he]
    obtain rfl := g0 p0
    obtain rfl := g3 p3
    clear he
    have hl14 := last_false (L := 14) hcl hbl rfl (by kernel_rfl) hbi
    have hla := last_false (L := 15) hcl hbl rfl (by kernel_rfl) hl14
    go_simp
    exact hK _ _ ⟨_, _, _, _, _, _, _, _, _, _, _, _, _, _, _, rfl, fun _ => hk hla, fun h => g0 (by simpa using h), fun h => g1 (by simpa using h), fun h => g2 (by simpa using h), fun h => g3 (by simpa using h), fun h => (fun g => (fun h12 => g (by simpa using h12))) (g4 (by simpa using h)), fun h => g5 (by simpa using h), fun h => g6 (by simpa using h), fun h => g7 (by simpa using h), fun h => g8 (by simpa using h), fun h => g9 (by simpa using h), fun h => g10 (by simpa using h), fun h => g11 (by simpa using h), fun h => (fun g => (by obtain ⟨gN, cN, e, h⟩ := g; exact ⟨gN, cN, e, fun h15 => h (by simpa using h15)⟩)) (g12 (by simpa using h)), fun _ => rfl, fun h => g14 (by simpa using h), fun h => (fun g => by simp [hla] at h) (g15 (by simpa using h))⟩
  case o1_14 =>
    rintro b ac u hbl hbi hcl he ⟨t63, t64, t65, t66, t67, t68, t69, t70, t71, t72, t73, t74, t75, t76, t77, rfl, hk, g0, g1, g2, g3, g4, g5, g6, g7, g8, g9, g10, g11, g12, g13, g14, g15⟩ K hK
    have p13 : b[13]? = some true := by simp [Region.binds] at he; simp [he]
    obtain rfl := g13 p13
    clear he
    have hla := last_false (L := 15) hcl hbl rfl (by kernel_rfl) hbi
    go_simp
    exact hK _ _ ⟨_, _, _, _, _, _, _, _, _, _, _, _, _, _, _, rfl, fun _ => hk hla, fun h => g0 (by simpa using h), fun h => g1 (by simpa using h), fun h => g2 (by simpa using h), fun h => g3 (by simpa using h), fun h => (fun g => (fun h12 => g (by simpa using h12))) (g4 (by simpa using h)), fun h => g5 (by simpa using h), fun h => g6 (by simpa using h), fun h => g7 (by simpa using h), fun h => g8 (by simpa using h), fun h => g9 (by simpa using h), fun h => g10 (by simpa using h), fun h => g11 (by simpa using h), fun h => (fun g => (by obtain ⟨gN, cN, e, h⟩ := g; exact ⟨gN, cN, e, fun h15 => h (by simpa using h15)⟩)) (g12 (by simpa using h)), fun h => g13 (by simpa using h), fun _ => rfl, fun h => (fun g => by simp [hla] at h) (g15 (by simpa using h))⟩
  case o1_15 =>
    rintro b ac u hbl hbi hcl he ⟨t63, t64, t65, t66, t67, t68, t69, t70, t71, t72, t73, t74, t75, t76, t77, rfl, hk, g0, g1, g2, g3, g4, g5, g6, g7, g8, g9, g10, g11, g12, g13, g14, g15⟩ K hK
    have p14 : b[14]? = some true := by simp [Region.binds] at he; simp [he]
    have p12 : b[12]? = some true := by simp [Region.binds] at he; simp [he]
    obtain rfl := g14 p14
    obtain ⟨gN, cN, rfl, h2⟩ := g12 p12
    clear he
    have hG' := own_below (hk hbi) hG
    obtain ⟨v5, cG5⟩ := own_at hG' (o := j * 8 + 5) (by omega)
    have fG := (own_cells hG').2
    go_simp
    exact hK _ _ ⟨_, _, _, _, _, _, _, _, _, _, _, _, _, _, _, rfl, fun h => by simp [hbl] at h, fun h => g0 (by simpa using h), fun h => g1 (by simpa using h), fun h => g2 (by simpa using h), fun h => g3 (by simpa using h), fun h => (fun g => (fun h12 => by have p12 := p12; simp [p12] at h12)) (g4 (by simpa using h)), fun h => g5 (by simpa using h), fun h => g6 (by simpa using h), fun h => g7 (by simpa using h), fun h => g8 (by simpa using h), fun h => g9 (by simpa using h), fun h => g10 (by simpa using h), fun h => g11 (by simpa using h), fun h => (fun g => ⟨gN, cN, rfl, fun h15 => by simp [hbl] at h15⟩) (g12 (by simpa using h)), fun h => g13 (by simpa using h), fun h => g14 (by simpa using h), fun _ => ⟨u, gN, cN, hk hbi, h2 hbi, rfl⟩⟩
  rintro ac u ⟨t63, t64, t65, t66, t67, t68, t69, t70, t71, t72, t73, t74, t75, t76, t77, rfl, hk, g0, g1, g2, g3, g4, g5, g6, g7, g8, g9, g10, g11, g12, g13, g14, g15⟩
  replace g0 := g0 (by simp)
  replace g1 := g1 (by simp)
  replace g2 := g2 (by simp)
  replace g3 := g3 (by simp)
  replace g4 := g4 (by simp)
  replace g5 := g5 (by simp)
  replace g6 := g6 (by simp)
  replace g7 := g7 (by simp)
  replace g8 := g8 (by simp)
  replace g9 := g9 (by simp)
  replace g10 := g10 (by simp)
  replace g11 := g11 (by simp)
  replace g12 := g12 (by simp)
  replace g13 := g13 (by simp)
  replace g14 := g14 (by simp)
  replace g15 := g15 (by simp)
  rename World => u2
  obtain ⟨u0, gN, cN, hb0, h2, hu⟩ := g15
  clear hk g0 g1 g2 g3 g4 g5 g6 g7 g8 g9 g10 g11 g12 g13 g14
  have hGu : u2.heap[G]? = some (.cells (cur.setIfInBounds (j * 8 + 5) (.slice (some ⟨gN, 0, none⟩) 4 cN)) 36 (0, 0)) := by rw [hu]; exact own_set (own_below hb0 hG) _ _
  have hCu := own_set_ne (own_below hb0 hC) (p := ⟨G, j * 8 + 5, none⟩) (show G ≠ w.heap.size by omega) (.slice (some ⟨gN, 0, none⟩) 4 cN)
  have hRu := ownsRow_setT h2 (own_below hb0 hG) (by decide) (j * 8 + 5) (.slice (some ⟨gN, 0, none⟩) 4 cN)
  have ttu := (tt.trans (hb0.mono tt.size)).setCell (p := ⟨G, j * 8 + 5, none⟩) (show w.heap.size ≤ G by omega) (.slice (some ⟨gN, 0, none⟩) 4 cN)
  rw [← hu] at hCu hRu ttu
  have zcur : j * 8 + 5 < cur.size := by have : n * 8 ≤ cG * 8 := Nat.mul_le_mul_right 8 hnG; omega
  have zn : n * 8 ≤ cur.size := by have : n * 8 ≤ cG * 8 := Nat.mul_le_mul_right 8 hnG; omega
  have hc5 : (cur.setIfInBounds (j * 8 + 5) (.slice (some ⟨gN, 0, none⟩) 4 cN))[j * 8 + 5]? = some (.slice (some ⟨gN, 0, none⟩) 4 cN) := by simp [zcur]
  have hcO : ∀ o, o < n * 8 → o ≠ j * 8 + 5 → (cur.setIfInBounds (j * 8 + 5) (.slice (some ⟨gN, 0, none⟩) 4 cN))[o]? = w.cell? ⟨tb, off + o, none⟩ := fun o ho hne => by
    rw [Array.getElem?_setIfInBounds_ne (fun h => hne h.symm)]
    have e : cur.toList[o]? = news[o]? := by rw [← htake, List.getElem?_take, if_pos ho]
    rw [← Array.getElem?_toList, e]
    obtain ⟨v, hv⟩ : ∃ v, news[o]? = some v := ⟨news[o]'(by omega), by simp [hnl, ho]⟩
    rw [hv]
    exact (HNC.out o v hv).symm
  have HCO := hid hcO
  generalize cur.setIfInBounds (j * 8 + 5) (.slice (some ⟨gN, 0, none⟩) 4 cN) = curX at *
  have hrr := hRu
  obtain ⟨_, hrr⟩ := hrr
  obtain ⟨curR, hgR, hgN, hszR⟩ : ∃ curR : Array Value, u2.heap[gN]? = some (.cells curR 38 (0, 0)) ∧ u1.heap.size ≤ gN ∧ 20 ≤ curR.size := by
    rcases hrr with ⟨h0, _⟩ | ⟨gg, cc, curR, h1, q1, q2, q3, q4, q5, _⟩
    · cases h0
    · cases h1
      exact ⟨curR, q2, q1, by have : 4 * 5 ≤ cN * 5 := Nat.mul_le_mul_right 5 q3; omega⟩
  have FG := fun u (hu : Below u2.heap.size u2 u) => ((own_cells (own_below hu hGu)).1 (j * 8 + 5)).trans hc5
  have hl4' : (l : Int) < 4 := by omega
  have zC1 := own_lt hC
  clear hrr hcO hu h2 hb0 hG hC htake zcur zn hnl hnc hn1 hcm hcs
  go_upto_region 11 with fail
  refine wp_region_each (by kernel_rfl) (by kernel_rfl) (by kernel_rfl) (fun b ac u => ∃ t78 t79 t80 t81 t82 t83 t84 t85 t86 t87 t88 : Value, ac = ⟨#[.slice a len cap, undef, .bool false, .slice (some ⟨tb, off, none⟩) n c, .pointer (some ⟨w.heap.size, 0, none⟩), .int .i64 b0, .slice (some ⟨G, 0, none⟩) n cG, .slice a len cap, .int .i64 (len : Int), .bool (decide (1048576 < (len : Int))), .tuple #[.slice (some ⟨tb, off, none⟩) n c, .agg #[.int .i64 k, .int .i64 ((j : Int) + 1), .int .i64 (l : Int), .int .i64 bb, .int .i64 m]], .slice a len cap, .tuple #[.slice (some ⟨tb, off, none⟩) n c, .agg #[.int .i64 k, .int .i64 ((j : Int) + 1), .int .i64 (l : Int), .int .i64 bb, .int .i64 m]], .slice (some ⟨tb, off, none⟩) n c, .agg #[.int .i64 k, .int .i64 ((j : Int) + 1), .int .i64 (l : Int), .int .i64 bb, .int .i64 m], .slice (some ⟨tb, off, none⟩) n c, .agg #[.int .i64 k, .int .i64 ((j : Int) + 1), .int .i64 (l : Int), .int .i64 bb, .int .i64 m], .int .i64 b0, .int .i64 b0, .slice (some ⟨tb, off, none⟩) n c, .agg #[.int .i64 k, .int .i64 ((j : Int) + 1), .int .i64 (l : Int), .int .i64 bb, .int .i64 m], .int .i64 b0, .bool false, .bool false, .slice (some ⟨tb, off, none⟩) n c, .bool true, .bool false, .bool false, .bool false, .agg #[.int .i64 k, .int .i64 ((j : Int) + 1), .int .i64 (l : Int), .int .i64 bb, .int .i64 m], .bool true, .bool false, .bool false, .bool false, .pointer (some ⟨w.heap.size, 1, none⟩), .int .i64 ((j : Int) + 1), .slice (some ⟨tb, off, none⟩) n c, .int .i64 (n : Int), .bool (decide ((n : Int) < (j : Int) + 1)), .bool (decide ((n : Int) < (j : Int) + 1)), .bool (decide ((n : Int) < (j : Int) + 1)), .slice (some ⟨tb, off, none⟩) n c, .pointer (some ⟨w.heap.size, 1, none⟩), .int .i64 ((j : Int) + 1), .int .i64 (j : Int), .pointer (some ⟨tb, off + j * 8, none⟩), .pointer (some ⟨tb, off + j * 8, none⟩), .int .i64 3, .bool false, .bool (decide ((n : Int) < (j : Int) + 1)), undef, undef, undef, undef, undef, .pointer (some ⟨w.heap.size, 0, none⟩), .int .i64 k, .bool false, undef, undef, .slice (some ⟨w4.heap.size, 0, none⟩) 0 0, .slice (some ⟨tb, off, none⟩) n c, .slice (some ⟨G, 0, none⟩) n cG, t63, t64, t65, t66, t67, t68, t69, t70, t71, t72, t73, t74, t75, t76, t77, t78, t79, t80, t81, t82, t83, t84, t85, t86, t87, t88, undef, undef, undef, undef], []⟩ ∧ ((b[11]? = some false → Below u2.heap.size u2 u)) ∧ (b[0]? = some true → t78 = .slice (some ⟨G, 0, none⟩) n cG) ∧ (b[1]? = some true → t79 = .pointer (some ⟨w.heap.size, 1, none⟩)) ∧ (b[2]? = some true → t80 = .int .i64 ((j : Int) + 1)) ∧ (b[3]? = some true → t81 = .int .i64 (j : Int)) ∧ (b[4]? = some true → t82 = .pointer (some ⟨G, j * 8, none⟩)) ∧ (b[5]? = some true → t83 = .pointer (some ⟨G, j * 8 + 5, none⟩)) ∧ (b[6]? = some true → t84 = .slice (some ⟨gN, 0, none⟩) 4 cN) ∧ (b[7]? = some true → t85 = .pointer (some ⟨w.heap.size, 2, none⟩)) ∧ (b[8]? = some true → t86 = .int .i64 (l : Int)) ∧ (b[9]? = some true → t87 = .agg #[.int .i64 0, .int .i64 0, .bool false, .bool false, .bool false]) ∧ (b[10]? = some true → t88 = .pointer (some ⟨gN, l * 5, none⟩)) ∧ (b[11]? = some true → ∃ u0 : World, Below u2.heap.size u2 u0 ∧ u = setR u0 gN (l * 5) rt00)) ?h0_2 ⟨?o2_0, ?o2_1, ?o2_2, ?o2_3, ?o2_4, ?o2_5, ?o2_6, ?o2_7, ?o2_8, ?o2_9, ?o2_10, ?o2_11, trivial⟩ ?hend_2
  case h0_2 => exact ⟨undef, undef, undef, undef, undef, undef, undef, undef, undef, undef, undef, rfl, (fun _ => (Below.refl _ _).drew), by simp, by simp, by simp, by simp, by simp, by simp, by simp, by simp, by simp, by simp, by simp, by simp⟩
  case o2_0 =>
    rintro b ac u hbl hbi hcl he ⟨t78, t79, t80, t81, t82, t83, t84, t85, t86, t87, t88, rfl, hk, g0, g1, g2, g3, g4, g5, g6, g7, g8, g9, g10, g11⟩ K hK
    clear he
    have hla := last_false (L := 11) hcl hbl rfl (by kernel_rfl) hbi
    go_simp
    exact hK _ _ ⟨_, _, _, _, _, _, _, _, _, _, _, rfl, fun _ => hk hla, fun _ => rfl, fun h => g1 (by simpa using h), fun h => g2 (by simpa using h), fun h => g3 (by simpa using h), fun h => g4 (by simpa using h), fun h => g5 (by simpa using h), fun h => g6 (by simpa using h), fun h => g7 (by simpa using h), fun h => g8 (by simpa using h), fun h => g9 (by simpa using h), fun h => g10 (by simpa using h), fun h => (fun g => by simp [hla] at h) (g11 (by simpa using h))⟩
  case o2_1 =>
    rintro b ac u hbl hbi hcl he ⟨t78, t79, t80, t81, t82, t83, t84, t85, t86, t87, t88, rfl, hk, g0, g1, g2, g3, g4, g5, g6, g7, g8, g9, g10, g11⟩ K hK
    clear he
    have hla := last_false (L := 11) hcl hbl rfl (by kernel_rfl) hbi
    go_simp
    exact hK _ _ ⟨_, _, _, _, _, _, _, _, _, _, _, rfl, fun _ => hk hla, fun h => g0 (by simpa using h), fun _ => rfl, fun h => g2 (by simpa using h), fun h => g3 (by simpa using h), fun h => g4 (by simpa using h), fun h => g5 (by simpa using h), fun h => g6 (by simpa using h), fun h => g7 (by simpa using h), fun h => g8 (by simpa using h), fun h => g9 (by simpa using h), fun h => g10 (by simpa using h), fun h => (fun g => by simp [hla] at h) (g11 (by simpa using h))⟩
  case o2_2 =>
    rintro b ac u hbl hbi hcl he ⟨t78, t79, t80, t81, t82, t83, t84, t85, t86, t87, t88, rfl, hk, g0, g1, g2, g3, g4, g5, g6, g7, g8, g9, g10, g11⟩ K hK
    have p1 : b[1]? = some true := by simp [Region.binds] at he; simp [he]
    obtain rfl := g1 p1
    clear he
    have hla := last_false (L := 11) hcl hbl rfl (by kernel_rfl) hbi
    have cC := (own_cells (own_below (hk hla) hCu)).1
    have fC := (own_cells (own_below (hk hla) hCu)).2
    go_simp
    exact hK _ _ ⟨_, _, _, _, _, _, _, _, _, _, _, rfl, fun _ => hk hla, fun h => g0 (by simpa using h), fun h => g1 (by simpa using h), fun _ => rfl, fun h => g3 (by simpa using h), fun h => g4 (by simpa using h), fun h => g5 (by simpa using h), fun h => g6 (by simpa using h), fun h => g7 (by simpa using h), fun h => g8 (by simpa using h), fun h => g9 (by simpa using h), fun h => g10 (by simpa using h), fun h => (fun g => by simp [hla] at h) (g11 (by simpa using h))⟩
  case o2_3 =>
    rintro b ac u hbl hbi hcl he ⟨t78, t79, t80, t81, t82, t83, t84, t85, t86, t87, t88, rfl, hk, g0, g1, g2, g3, g4, g5, g6, g7, g8, g9, g10, g11⟩ K hK
    have p2 : b[2]? = some true := by simp [Region.binds] at he; simp [he]
    obtain rfl := g2 p2
    clear he
    have hla := last_false (L := 11) hcl hbl rfl (by kernel_rfl) hbi
    go_simp
    exact hK _ _ ⟨_, _, _, _, _, _, _, _, _, _, _, rfl, fun _ => hk hla, fun h => g0 (by simpa using h), fun h => g1 (by simpa using h), fun h => g2 (by simpa using h), fun _ => rfl, fun h => g4 (by simpa using h), fun h => g5 (by simpa using h), fun h => g6 (by simpa using h), fun h => g7 (by simpa using h), fun h => g8 (by simpa using h), fun h => g9 (by simpa using h), fun h => g10 (by simpa using h), fun h => (fun g => by simp [hla] at h) (g11 (by simpa using h))⟩
  case o2_4 =>
    rintro b ac u hbl hbi hcl he ⟨t78, t79, t80, t81, t82, t83, t84, t85, t86, t87, t88, rfl, hk, g0, g1, g2, g3, g4, g5, g6, g7, g8, g9, g10, g11⟩ K hK
    have p0 : b[0]? = some true := by simp [Region.binds] at he; simp [he]
    have p3 : b[3]? = some true := by simp [Region.binds] at he; simp [he]
    obtain rfl := g0 p0
    obtain rfl := g3 p3
    clear he
    have hla := last_false (L := 11) hcl hbl rfl (by kernel_rfl) hbi
    go_simp
    exact hK _ _ ⟨_, _, _, _, _, _, _, _, _, _, _, rfl, fun _ => hk hla, fun h => g0 (by simpa using h), fun h => g1 (by simpa using h), fun h => g2 (by simpa using h), fun h => g3 (by simpa using h), fun _ => rfl, fun h => g5 (by simpa using h), fun h => g6 (by simpa using h), fun h => g7 (by simpa using h), fun h => g8 (by simpa using h), fun h => g9 (by simpa using h), fun h => g10 (by simpa using h), fun h => (fun g => by simp [hla] at h) (g11 (by simpa using h))⟩
  case o2_5 =>
    rintro b ac u hbl hbi hcl he ⟨t78, t79, t80, t81, t82, t83, t84, t85, t86, t87, t88, rfl, hk, g0, g1, g2, g3, g4, g5, g6, g7, g8, g9, g10, g11⟩ K hK
    have p4 : b[4]? = some true := by simp [Region.binds] at he; simp [he]
    obtain rfl := g4 p4
    clear he
    have hla := last_false (L := 11) hcl hbl rfl (by kernel_rfl) hbi
    go_simp
    exact hK _ _ ⟨_, _, _, _, _, _, _, _, _, _, _, rfl, fun _ => hk hla, fun h => g0 (by simpa using h), fun h => g1 (by simpa using h), fun h => g2 (by simpa using h), fun h => g3 (by simpa using h), fun h => g4 (by simpa using h), fun _ => rfl, fun h => g6 (by simpa using h), fun h => g7 (by simpa using h), fun h => g8 (by simpa using h), fun h => g9 (by simpa using h), fun h => g10 (by simpa using h), fun h => (fun g => by simp [hla] at h) (g11 (by simpa using h))⟩
  case o2_6 =>
    rintro b ac u hbl hbi hcl he ⟨t78, t79, t80, t81, t82, t83, t84, t85, t86, t87, t88, rfl, hk, g0, g1, g2, g3, g4, g5, g6, g7, g8, g9, g10, g11⟩ K hK
    have p5 : b[5]? = some true := by simp [Region.binds] at he; simp [he]
    obtain rfl := g5 p5
    clear he
    have hla := last_false (L := 11) hcl hbl rfl (by kernel_rfl) hbi
    have cS := FG u (hk hla)
    go_simp
    exact hK _ _ ⟨_, _, _, _, _, _, _, _, _, _, _, rfl, fun _ => hk hla, fun h => g0 (by simpa using h), fun h => g1 (by simpa using h), fun h => g2 (by simpa using h), fun h => g3 (by simpa using h), fun h => g4 (by simpa using h), fun h => g5 (by simpa using h), fun _ => rfl, fun h => g7 (by simpa using h), fun h => g8 (by simpa using h), fun h => g9 (by simpa using h), fun h => g10 (by simpa using h), fun h => (fun g => by simp [hla] at h) (g11 (by simpa using h))⟩
  case o2_7 =>
    rintro b ac u hbl hbi hcl he ⟨t78, t79, t80, t81, t82, t83, t84, t85, t86, t87, t88, rfl, hk, g0, g1, g2, g3, g4, g5, g6, g7, g8, g9, g10, g11⟩ K hK
    clear he
    have hla := last_false (L := 11) hcl hbl rfl (by kernel_rfl) hbi
    go_simp
    exact hK _ _ ⟨_, _, _, _, _, _, _, _, _, _, _, rfl, fun _ => hk hla, fun h => g0 (by simpa using h), fun h => g1 (by simpa using h), fun h => g2 (by simpa using h), fun h => g3 (by simpa using h), fun h => g4 (by simpa using h), fun h => g5 (by simpa using h), fun h => g6 (by simpa using h), fun _ => rfl, fun h => g8 (by simpa using h), fun h => g9 (by simpa using h), fun h => g10 (by simpa using h), fun h => (fun g => by simp [hla] at h) (g11 (by simpa using h))⟩
  case o2_8 =>
    rintro b ac u hbl hbi hcl he ⟨t78, t79, t80, t81, t82, t83, t84, t85, t86, t87, t88, rfl, hk, g0, g1, g2, g3, g4, g5, g6, g7, g8, g9, g10, g11⟩ K hK
    have p7 : b[7]? = some true := by simp [Region.binds] at he; simp [he]
    obtain rfl := g7 p7
    clear he
    have hla := last_false (L := 11) hcl hbl rfl (by kernel_rfl) hbi
    have cC := (own_cells (own_below (hk hla) hCu)).1
    have fC := (own_cells (own_below (hk hla) hCu)).2
    go_simp
    exact hK _ _ ⟨_, _, _, _, _, _, _, _, _, _, _, rfl, fun _ => hk hla, fun h => g0 (by simpa using h), fun h => g1 (by simpa using h), fun h => g2 (by simpa using h), fun h => g3 (by simpa using h), fun h => g4 (by simpa using h), fun h => g5 (by simpa using h), fun h => g6 (by simpa using h), fun h => g7 (by simpa using h), fun _ => rfl, fun h => g9 (by simpa using h), fun h => g10 (by simpa using h), fun h => (fun g => by simp [hla] at h) (g11 (by simpa using h))⟩
  case o2_9 =>
    rintro b ac u hbl hbi hcl he ⟨t78, t79, t80, t81, t82, t83, t84, t85, t86, t87, t88, rfl, hk, g0, g1, g2, g3, g4, g5, g6, g7, g8, g9, g10, g11⟩ K hK
    clear he
    have hla := last_false (L := 11) hcl hbl rfl (by kernel_rfl) hbi
    go_simp
    exact hK _ _ ⟨_, _, _, _, _, _, _, _, _, _, _, rfl, fun _ => hk hla, fun h => g0 (by simpa using h), fun h => g1 (by simpa using h), fun h => g2 (by simpa using h), fun h => g3 (by simpa using h), fun h => g4 (by simpa using h), fun h => g5 (by simpa using h), fun h => g6 (by simpa using h), fun h => g7 (by simpa using h), fun h => g8 (by simpa using h), fun _ => rfl, fun h => g10 (by simpa using h), fun h => (fun g => by simp [hla] at h) (g11 (by simpa using h))⟩
  case o2_10 =>
    rintro b ac u hbl hbi hcl he ⟨t78, t79, t80, t81, t82, t83, t84, t85, t86, t87, t88, rfl, hk, g0, g1, g2, g3, g4, g5, g6, g7, g8, g9, g10, g11⟩ K hK
    have p6 : b[6]? = some true := by simp [Region.binds] at he; simp [he]
    have p8 : b[8]? = some true := by simp [Region.binds] at he; simp [he]
    obtain rfl := g6 p6
    obtain rfl := g8 p8
    clear he
    have hla := last_false (L := 11) hcl hbl rfl (by kernel_rfl) hbi
    go_simp
    exact hK _ _ ⟨_, _, _, _, _, _, _, _, _, _, _, rfl, fun _ => hk hla, fun h => g0 (by simpa using h), fun h => g1 (by simpa using h), fun h => g2 (by simpa using h), fun h => g3 (by simpa using h), fun h => g4 (by simpa using h), fun h => g5 (by simpa using h), fun h => g6 (by simpa using h), fun h => g7 (by simpa using h), fun h => g8 (by simpa using h), fun h => g9 (by simpa using h), fun _ => rfl, fun h => (fun g => by simp [hla] at h) (g11 (by simpa using h))⟩
  case o2_11 =>
    rintro b ac u hbl hbi hcl he ⟨t78, t79, t80, t81, t82, t83, t84, t85, t86, t87, t88, rfl, hk, g0, g1, g2, g3, g4, g5, g6, g7, g8, g9, g10, g11⟩ K hK
    have p10 : b[10]? = some true := by simp [Region.binds] at he; simp [he]
    have p9 : b[9]? = some true := by simp [Region.binds] at he; simp [he]
    obtain rfl := g10 p10
    obtain rfl := g9 p9
    clear he
    have hgR' := own_below (hk hbi) hgR
    obtain ⟨v0, c0⟩ := own_at hgR' (o := l * 5) (by omega)
    obtain ⟨v1, c1⟩ := own_at hgR' (o := l * 5 + 1) (by omega)
    obtain ⟨v2, c2⟩ := own_at hgR' (o := l * 5 + 2) (by omega)
    obtain ⟨v3, c3⟩ := own_at hgR' (o := l * 5 + 3) (by omega)
    obtain ⟨v4, c4⟩ := own_at hgR' (o := l * 5 + 4) (by omega)
    have fR := (own_cells hgR').2
    go_simp
    exact hK _ _ ⟨_, _, _, _, _, _, _, _, _, _, _, rfl, fun h => by simp [hbl] at h, fun h => g0 (by simpa using h), fun h => g1 (by simpa using h), fun h => g2 (by simpa using h), fun h => g3 (by simpa using h), fun h => g4 (by simpa using h), fun h => g5 (by simpa using h), fun h => g6 (by simpa using h), fun h => g7 (by simpa using h), fun h => g8 (by simpa using h), fun h => g9 (by simpa using h), fun h => g10 (by simpa using h), fun _ => ⟨u, hk hbi, rfl⟩⟩
  rintro ac u ⟨t78, t79, t80, t81, t82, t83, t84, t85, t86, t87, t88, rfl, hk, g0, g1, g2, g3, g4, g5, g6, g7, g8, g9, g10, g11⟩
  replace g0 := g0 (by simp)
  replace g1 := g1 (by simp)
  replace g2 := g2 (by simp)
  replace g3 := g3 (by simp)
  replace g4 := g4 (by simp)
  replace g5 := g5 (by simp)
  replace g6 := g6 (by simp)
  replace g7 := g7 (by simp)
  replace g8 := g8 (by simp)
  replace g9 := g9 (by simp)
  replace g10 := g10 (by simp)
  replace g11 := g11 (by simp)
  rename World => u3
  obtain ⟨u0, hb0, hu⟩ := g11
  clear hk g0 g1 g2 g3 g4 g5 g6 g7 g8 g9 g10 FG
  have hG3 := own_setR_ne (own_below hb0 hGu) (show gN ≠ G from fun e => by rw [e, hGu] at hgR; cases hgR) (l * 5) rt00
  have hC3 := own_setR_ne (own_below hb0 hCu) (show gN ≠ w.heap.size by have := tt.size; omega) (l * 5) rt00
  have hR3 := ownsRow_setR_at (ownsRow_below hRu hb0) l rt00
  have tt3 := below_setR (ttu.trans (hb0.mono ttu.size)) (show w.heap.size ≤ gN by have := tt.size; omega) (l * 5) rt00
  rw [← hu] at hG3 hC3 hR3 tt3
  have hrow := rowR_own hR3 (by simp) (by omega)
  have hRowT := rowT_but (rs := [x0, x1, x2, x3].set l rt00) HX.out HTL.out HAT.out tt3 hG3 (by rw [← EN.out]; exact HCO.out) (by simpa using hc5) hrow
  have CF := CI2.out (some ⟨G, 0, none⟩) cG _ u3 tt3 hRowT
  rw [List.length_set, ← EN.out, chk_none HX.out (by simpa using hl4) ek] at CF
  have CF' := hid CF
  clear CF hRowT hrow hR3 hG3 hu hGu hCu hRu hgR hc5 HCO tt ttu hb0
  obtain ⟨cC, fC⟩ := own_cells hC3
  go_wp2_with fail
  refine CF'.out.mono ?_
  rintro e w9 ⟨rfl, hb⟩
  go_wp2_with fail
  go_ret
  exact ⟨rfl, t0.trans ((tt3.trans (hb.mono tt3.size)).mono t0.size)⟩
end Go.Proofs.YtcgmnpppdoadhaaDoor
