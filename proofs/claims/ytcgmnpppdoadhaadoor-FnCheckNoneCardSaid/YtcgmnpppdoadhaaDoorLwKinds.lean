/- The walk of the law FnCheckKinds, on drawn tables and calls. What it asks is what errors' variable holds. -/
import Derived.Test.YtcgmnpppdoadhaaDoorCkI
import Derived.Test.YtcgmnpppdoadhaaDoorDCl
namespace Go.Proofs.YtcgmnpppdoadhaaDoor
set_option maxRecDepth 100000
open Go Go.RowKit
set_option linter.unusedVariables false
set_option linter.unusedSimpArgs false

theorem chk_callB {ts : List Th} {k run a b n : Int} (h : ¬ chkCall ts k run a b n = -1) : callB ts k run a b n = true := by
  cases e : callB ts k run a b n
  · simp [chkCall, e] at h
  · rfl
theorem need_kd {k kd : Int} (h : (needKinds k).any (· == kd) = true) :
    ((k = 1 ∨ k = 2) → kd = 1) ∧ ((k = 4 ∨ k = 5) → kd = 2) ∧ ((k = 6 ∨ k = 7) → kd = 4) ∧ (k = 8 → kd = 1 ∨ kd = 2 ∨ kd = 4) ∧ (k = 9 → kd = 5) := by
  unfold needKinds at h
  refine ⟨fun q => ?_, fun q => ?_, fun q => ?_, fun q => ?_, fun q => ?_⟩
  · rcases q with rfl | rfl <;> simp at h <;> omega
  · rcases q with rfl | rfl <;> simp at h <;> omega
  · rcases q with rfl | rfl <;> simp at h <;> omega
  · subst q; simp at h; omega
  · subst q; simp at h; omega
/-- Where nothing is refused: the right is to a thing of the call's kinds. -/
theorem chk_kinds {ts : List Th} {k run a b n : Int} (h : chkCall ts k run a b n = 0) (h3 : (k == 3) = false) :
    inB k 1 9 = true ∧ ∃ (j l : Nat) (t : Th) (x : Rt) (i : Nat) (ti : Th), run = (j : Int) + 1 ∧ a = (l : Int) ∧ ts[j]? = some t ∧ l < 4 ∧ t.slots.length = 4 ∧ t.slots[l]? = some x ∧ x.t = (i : Int) + 1 ∧ ts[i]? = some ti ∧ (needKinds k).any (· == ti.kind) = true := by
  have e0 := chk_callB (ts := ts) (k := k) (run := run) (a := a) (b := b) (n := n) (by rw [h]; decide)
  obtain ⟨hok, hk9, j, l, t, x, rfl, rfl, hx, hl4, hlen, hxl, hkd, hrA⟩ := callB_at e0
  have q : chkRt ts k ((j : Int) + 1) x = 0 := by
    rw [← h]; unfold chkCall; rw [e0, h3, hrA]; rfl
  rcases fit_cases (tbl_fit hok hx hxl) with h0 | ⟨i, ti, hi, hxi, _⟩
  · simp [chkRt, h0] at q
  · refine ⟨hk9, j, l, t, x, i, ti, rfl, rfl, hx, hl4, hlen, hxl, hi, hxi, ?_⟩
    cases e : (needKinds k).any (· == ti.kind)
    · have : kdAt ts x.t = ti.kind := by rw [hi]; exact kdAt_of hxi
      simp only [chkRt, this, e, Bool.not_false, Bool.or_true, if_true] at q
      cases q
    · rfl
set_option maxHeartbeats 4000000 in
set_option maxRecDepth 100000 in
theorem fnCheckKinds_walk (v : World) (a : Option Addr) (len cap : Nat) (z : List Int) (hr : IsRow .u8 v a len cap z) (hg : HandleAt v) :
    Calls Tryd.prog 6 #[.slice a len cap] v fun e w' => e = .returned (.bool true) ∧ Below v.heap.size v w' := by
  by_cases hl : 1048576 < len
  · go_enter Tryd.func6, Tryd.ntmps6
    go_wp2_with fail
    go_ret
    exact ⟨rfl, Below.refl _ _⟩
  have HG := hid hg
  clear hg
  go_enter Tryd.func6, Tryd.ntmps6
  go_wp2_with fail
  refine (drawCheckCall_any _ _ _ _ _ hr).mono ?_
  rintro e w ⟨ts, ta, c, k, r, aa, bb, m, rfl, h3, h8, hr1, hr2, hT, t0⟩
  clear hr hl
  have tt : Below w.heap.size w (w.alloc (.cells #[.int .i64 k, .int .i64 r, .int .i64 aa, .int .i64 bb, .int .i64 m] 25)) := (Below.refl _ _).alloc (Nat.le_refl _) _
  have hC := own_new w (.cells #[.int .i64 k, .int .i64 r, .int .i64 aa, .int .i64 bb, .int .i64 m] 25)
  have CI := hid (fun u (hu : Below w.heap.size w u) => checkCall_any ta c ts k r aa bb m u (hT.below hu) ((HG.out.below t0).below hu))
  have CS := hid (fun u (hu : Below w.heap.size w u) => scheckCall_any ta c ts k r aa bb m u (hT.below hu))
  obtain ⟨b0, eb0⟩ : ∃ b0, b0 = chkCall ts k r aa bb m := ⟨_, rfl⟩
  rw [← eb0] at CI CS
  cases e0 : (b0 == 0)
  · have e1 : (b0 != 0) = true := by rw [bne, e0]; rfl
    clear eb0 hT
    generalize ts.length = n at *
    obtain ⟨cC, fC⟩ := own_cells hC
    go_wp2_with fail
    (try clear cC fC)
    go_wp2_with (first | (go_at_call 9; refine (CI.out _ (by (have zt := tt.size); (repeat (first | with_reducible exact tt | (with_reducible refine Below.setCell ?_ ?_ _) | (with_reducible refine Below.alloc ?_ ?_ _) | with_reducible refine Below.drew ?_)); (all_goals (first | omega | (simp <;> omega))))).mono ?_; rintro e w' ⟨rfl, hb⟩; (try clear cc_hC ff_hC); (try clear zz_hC zy_hC); have zt := tt.size; (replace tt : Below w.heap.size w w' := by (refine Below.trans ?_ (hb.mono ?_)); (all_goals (repeat (first | with_reducible exact tt | (with_reducible refine Below.setCell ?_ ?_ _) | (with_reducible refine Below.alloc ?_ ?_ _) | with_reducible refine Below.drew ?_)); (all_goals (first | omega | (simp <;> omega))))); clear zt; replace hC := own_below hb (by repeat (first | exact hC | apply own_alloc)); obtain ⟨cc_hC, ff_hC⟩ := own_cells hC; have zz_hC := own_lt hC; have zy_hC := Nat.lt_add_right 1 (own_lt hC); clear hb) | (go_at_call 10; refine (CS.out _ (by (have zt := tt.size); (repeat (first | with_reducible exact tt | (with_reducible refine Below.setCell ?_ ?_ _) | (with_reducible refine Below.alloc ?_ ?_ _) | with_reducible refine Below.drew ?_)); (all_goals (first | omega | (simp <;> omega))))).mono ?_; rintro e w' ⟨rfl, hb⟩; (try clear cc_hC ff_hC); (try clear zz_hC zy_hC); have zt := tt.size; (replace tt : Below w.heap.size w w' := by (refine Below.trans ?_ (hb.mono ?_)); (all_goals (repeat (first | with_reducible exact tt | (with_reducible refine Below.setCell ?_ ?_ _) | (with_reducible refine Below.alloc ?_ ?_ _) | with_reducible refine Below.drew ?_)); (all_goals (first | omega | (simp <;> omega))))); clear zt; replace hC := own_below hb (by repeat (first | exact hC | apply own_alloc)); obtain ⟨cc_hC, ff_hC⟩ := own_cells hC; have zz_hC := own_lt hC; have zy_hC := Nat.lt_add_right 1 (own_lt hC); clear hb))
    go_ret
    exact ⟨rfl, t0.trans (tt.mono t0.size)⟩
  obtain rfl : b0 = 0 := by simpa using e0
  cases e3 : (k == 3)
  case true =>
    clear eb0 hT
    generalize ts.length = n at *
    obtain ⟨cC, fC⟩ := own_cells hC
    go_wp2_with fail
    (try clear cC fC)
    go_wp2_with (first | (go_at_call 9; refine (CI.out _ (by (have zt := tt.size); (repeat (first | with_reducible exact tt | (with_reducible refine Below.setCell ?_ ?_ _) | (with_reducible refine Below.alloc ?_ ?_ _) | with_reducible refine Below.drew ?_)); (all_goals (first | omega | (simp <;> omega))))).mono ?_; rintro e w' ⟨rfl, hb⟩; (try clear cc_hC ff_hC); (try clear zz_hC zy_hC); have zt := tt.size; (replace tt : Below w.heap.size w w' := by (refine Below.trans ?_ (hb.mono ?_)); (all_goals (repeat (first | with_reducible exact tt | (with_reducible refine Below.setCell ?_ ?_ _) | (with_reducible refine Below.alloc ?_ ?_ _) | with_reducible refine Below.drew ?_)); (all_goals (first | omega | (simp <;> omega))))); clear zt; replace hC := own_below hb (by repeat (first | exact hC | apply own_alloc)); obtain ⟨cc_hC, ff_hC⟩ := own_cells hC; have zz_hC := own_lt hC; have zy_hC := Nat.lt_add_right 1 (own_lt hC); clear hb) | (go_at_call 10; refine (CS.out _ (by (have zt := tt.size); (repeat (first | with_reducible exact tt | (with_reducible refine Below.setCell ?_ ?_ _) | (with_reducible refine Below.alloc ?_ ?_ _) | with_reducible refine Below.drew ?_)); (all_goals (first | omega | (simp <;> omega))))).mono ?_; rintro e w' ⟨rfl, hb⟩; (try clear cc_hC ff_hC); (try clear zz_hC zy_hC); have zt := tt.size; (replace tt : Below w.heap.size w w' := by (refine Below.trans ?_ (hb.mono ?_)); (all_goals (repeat (first | with_reducible exact tt | (with_reducible refine Below.setCell ?_ ?_ _) | (with_reducible refine Below.alloc ?_ ?_ _) | with_reducible refine Below.drew ?_)); (all_goals (first | omega | (simp <;> omega))))); clear zt; replace hC := own_below hb (by repeat (first | exact hC | apply own_alloc)); obtain ⟨cc_hC, ff_hC⟩ := own_cells hC; have zz_hC := own_lt hC; have zy_hC := Nat.lt_add_right 1 (own_lt hC); clear hb))
    go_ret
    exact ⟨rfl, t0.trans (tt.mono t0.size)⟩
  case false =>
  obtain ⟨hk9, j, l, t, x, i, ti, rfl, rfl, hx, hl4, hlen, hxl, hxt, hxi, hkk⟩ := chk_kinds eb0.symm e3
  obtain ⟨tb, off, rfl, htb, TJ⟩ := hT.get hx
  obtain ⟨sa, sc, qa, qc, _, _, _, _, _, c5, _, _, hR, _⟩ := TJ w (Below.refl _ _)
  rw [hlen] at c5
  obtain ⟨g, go_, x', rfl, hxl', hg, q0, _, _, _, _⟩ := hR.at (k := l) (by omega)
  rw [hxl] at hxl'
  cases hxl'
  rw [hxt] at q0
  have fSl := fun u (hu : Below w.heap.size w u) => (hu.cell (p := ⟨tb, off + j * 8 + 5, none⟩) htb).trans c5
  have FX := fun u (hu : Below w.heap.size w u) => (hu.cell (p := ⟨g, go_ + l * 5, none⟩) hg).trans q0
  have FK := fun v (hv : Below w.heap.size w v) => (show v.cell? ⟨tb, off + i * 8, none⟩ = some (.int .i64 ti.kind) from by
    obtain ⟨b', off', e, _, h⟩ := hT.get hxi
    cases e
    exact (h v hv).knd)
  have hjm : j < ts.length := (List.getElem?_eq_some_iff.1 hx).1
  have him : i < ts.length := (List.getElem?_eq_some_iff.1 hxi).1
  have hwj := wr_small hjm hT.len
  have hwi := wr_small him hT.len
  have hl4' : (l : Int) < 4 := by omega
  clear eb0 hT TJ c5 hR q0 hx hxi hxl hxt hlen
  generalize ts.length = n at *
  obtain ⟨cC, fC⟩ := own_cells hC
  go_wp2_with fail
  (try clear cC fC)
  go_upto_region 7 with (first | (go_at_call 9; refine (CI.out _ (by (have zt := tt.size); (repeat (first | with_reducible exact tt | (with_reducible refine Below.setCell ?_ ?_ _) | (with_reducible refine Below.alloc ?_ ?_ _) | with_reducible refine Below.drew ?_)); (all_goals (first | omega | (simp <;> omega))))).mono ?_; rintro e w' ⟨rfl, hb⟩; (try clear cc_hC ff_hC); (try clear zz_hC zy_hC); have zt := tt.size; (replace tt : Below w.heap.size w w' := by (refine Below.trans ?_ (hb.mono ?_)); (all_goals (repeat (first | with_reducible exact tt | (with_reducible refine Below.setCell ?_ ?_ _) | (with_reducible refine Below.alloc ?_ ?_ _) | with_reducible refine Below.drew ?_)); (all_goals (first | omega | (simp <;> omega))))); clear zt; replace hC := own_below hb (by repeat (first | exact hC | apply own_alloc)); obtain ⟨cc_hC, ff_hC⟩ := own_cells hC; have zz_hC := own_lt hC; have zy_hC := Nat.lt_add_right 1 (own_lt hC); clear hb) | (go_at_call 10; refine (CS.out _ (by (have zt := tt.size); (repeat (first | with_reducible exact tt | (with_reducible refine Below.setCell ?_ ?_ _) | (with_reducible refine Below.alloc ?_ ?_ _) | with_reducible refine Below.drew ?_)); (all_goals (first | omega | (simp <;> omega))))).mono ?_; rintro e w' ⟨rfl, hb⟩; (try clear cc_hC ff_hC); (try clear zz_hC zy_hC); have zt := tt.size; (replace tt : Below w.heap.size w w' := by (refine Below.trans ?_ (hb.mono ?_)); (all_goals (repeat (first | with_reducible exact tt | (with_reducible refine Below.setCell ?_ ?_ _) | (with_reducible refine Below.alloc ?_ ?_ _) | with_reducible refine Below.drew ?_)); (all_goals (first | omega | (simp <;> omega))))); clear zt; replace hC := own_below hb (by repeat (first | exact hC | apply own_alloc)); obtain ⟨cc_hC, ff_hC⟩ := own_cells hC; have zz_hC := own_lt hC; have zy_hC := Nat.lt_add_right 1 (own_lt hC); clear hb))
  (try clear cc_hC ff_hC); (try clear zz_hC zy_hC)
  refine wp_region_quiet_below (by kernel_rfl) (by kernel_rfl) ?_
  iterate 18 ((with_reducible apply qval); (case hw => exact rfl); (case h => (intro v hu; obtain ⟨_, _⟩ := own_cells (own_below hu hC); have := fSl v (tt.trans (hu.mono tt.size)); have := FX v (tt.trans (hu.mono tt.size)); have := FK v (tt.trans (hu.mono tt.size)); go_simp; exact rfl)); (intro K hK; go_simp; (with_reducible refine hK _ ?_); clear hK K))
  refine wpQuiet_nil ?_
  intro u hu
  replace tt := tt.trans (hu.mono tt.size)
  replace hC := own_below hu hC
  clear hu fSl FX FK
  obtain ⟨cC, fC⟩ := own_cells hC
  generalize ti.kind = kd at *
  obtain ⟨n1, n2, n3, n4, n5⟩ := need_kd hkk
  rcases kind_cases hk9 e3 with rfl | rfl | rfl | rfl | rfl | rfl | rfl | rfl
  · obtain rfl := n1 (.inl rfl)
    go_wp2_with fail
    go_ret
    exact ⟨rfl, t0.trans (tt.mono t0.size)⟩
  · obtain rfl := n1 (.inr rfl)
    go_wp2_with fail
    go_ret
    exact ⟨rfl, t0.trans (tt.mono t0.size)⟩
  · obtain rfl := n2 (.inl rfl)
    go_wp2_with fail
    go_ret
    exact ⟨rfl, t0.trans (tt.mono t0.size)⟩
  · obtain rfl := n2 (.inr rfl)
    go_wp2_with fail
    go_ret
    exact ⟨rfl, t0.trans (tt.mono t0.size)⟩
  · obtain rfl := n3 (.inl rfl)
    go_wp2_with fail
    go_ret
    exact ⟨rfl, t0.trans (tt.mono t0.size)⟩
  · obtain rfl := n3 (.inr rfl)
    go_wp2_with fail
    go_ret
    exact ⟨rfl, t0.trans (tt.mono t0.size)⟩
  · rcases n4 rfl with rfl | rfl | rfl
    · go_wp2_with fail
      go_ret
      exact ⟨rfl, t0.trans (tt.mono t0.size)⟩
    · go_wp2_with fail
      go_ret
      exact ⟨rfl, t0.trans (tt.mono t0.size)⟩
    · go_wp2_with fail
      go_ret
      exact ⟨rfl, t0.trans (tt.mono t0.size)⟩
  · obtain rfl := n5 rfl
    go_wp2_with fail
    go_ret
    exact ⟨rfl, t0.trans (tt.mono t0.size)⟩
end Go.Proofs.YtcgmnpppdoadhaaDoor
