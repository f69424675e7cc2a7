/- The walk of the law FnTableForm, on drawn tables. No condition. -/
import Derived.Test.YtnhilnikhjgfhaaDFn
import Derived.Test.YtnhilnikhjgfhaaChk
import Derived.Test.YtnhilnikhjgfhaaLive
import Derived.OwnWalk
namespace Go.Proofs.Ytnhilnikhjgfhaa
open Go Go.RowKit Go.Shelf
set_option linter.unusedVariables false
set_option linter.unusedSimpArgs false

/-- A row that is no table by its length. -/
theorem tableOk_long (a : Option Addr) (m cap : Nat) (w : World) (e1 : inB m 1 8 = false) (hml : m ≤ 9223372036854775807) :
    Calls Try.prog 20 #[.slice a m cap] w fun e w' => e = .returned (.bool false) ∧ Below w.heap.size w w' := by
  have tt : Below w.heap.size w w := Below.refl _ _
  have hA := own_alloc (own_new w (.cells #[.slice a m cap] 40)) (.cells #[.bool false] 4)
  have hR := own_new (w.alloc (.cells #[.slice a m cap] 40)) (.cells #[.bool false] 4)
  simp only [World.size_alloc] at hA hR
  refine (callsIn_wide (n := 6)).1 (callsIn_of_wp_marks Try.func20 rfl trivial ((wpIn_wide (n := 6)).2 ?_) rfl)
  simp only [Try.ntmps20, List.size_toArray, List.length_cons, List.length_nil, Nat.reduceAdd, Nat.reduceSub, Array.replicate_succ, Array.replicate_zero, List.push_toArray, List.append_toArray, List.nil_append, List.cons_append]
  go_wp2_with (first | (go_at_call 41; refine (inRange_b _ _ _ _).mono ?_; rintro e w' ⟨rfl, hb⟩; (try clear cc_hA ff_hA); (try clear zz_hA zy_hA); (try clear cc_hR ff_hR); (try clear zz_hR zy_hR); have zt := tt.size; (replace tt : Below w.heap.size w w' := by (refine Below.trans ?_ (hb.mono ?_)); (all_goals (repeat (first | with_reducible exact tt | (with_reducible refine Below.setCell ?_ ?_ _) | (with_reducible refine Below.alloc ?_ ?_ _) | with_reducible refine Below.drew ?_)); (all_goals (first | omega | (simp <;> omega))))); clear zt; replace hA := own_below hb (by repeat (first | exact hA | apply own_alloc)); replace hR := own_below hb (by repeat (first | exact hR | apply own_alloc)); obtain ⟨cc_hA, ff_hA⟩ := own_cells hA; have zz_hA := own_lt hA; have zy_hA := Nat.lt_add_right 1 (own_lt hA); obtain ⟨cc_hR, ff_hR⟩ := own_cells hR; have zz_hR := own_lt hR; have zy_hR := Nat.lt_add_right 1 (own_lt hR); clear hb))
  refine bodyM_ret (v := .bool false) ?_ rfl ⟨rfl, ?_⟩
  · simp only [results, Try.results20]
    go_simp
  · have zt := tt.size
    (repeat (first | with_reducible exact tt | (with_reducible refine Below.setCell ?_ ?_ _) | (with_reducible refine Below.alloc ?_ ?_ _) | (with_reducible refine Below.drew ?_) | with_reducible refine Below.drewN' ?_ _)); (all_goals (first | omega | (simp <;> omega)))
def lenOf : Value → Nat | .slice _ n _ => n | _ => 0
theorem ownsRow_slice {w : World} {base : Nat} {e : TypeId} {size : Nat} {v : Value} {n : Nat} {xs : List Value} (h : w.ownsRow base e size v n xs) : ∃ a c, v = .slice a n c := by
  rcases h.2 with ⟨rfl, h3⟩ | ⟨g, cap, cur, rfl, _⟩
  · exact ⟨_, _, by rw [h3]⟩
  · exact ⟨_, _, rfl⟩
/-- The cells of a row of things, as they lie. -/
theorem rowCells {w : World} {b off : Nat} {n : Nat} (h : ∀ i, i < n → ∃ t : Th, At8 w b (off + i * 8) t) :
    ∃ news : List Value, news.length = n * 8 ∧ (∀ j u, news[j]? = some u → w.cell? ⟨b, off + j, none⟩ = some u) ∧ ∀ u ∈ news, u.oneCell' = true := by
  have hj : ∀ j, j < n * 8 → ∃ u, w.cell? ⟨b, off + j, none⟩ = some u ∧ u.oneCell' = true := by
    intro j hj
    obtain ⟨t, sa, sc, qa, qc, c0, c1, c2, c3, c4, c5, c6, c7, _⟩ := h (j / 8) (by omega)
    have hk : j % 8 < 8 := Nat.mod_lt _ (by omega)
    have e : off + j = off + j / 8 * 8 + j % 8 := by omega
    rw [e]
    generalize j % 8 = k at hk
    match k, hk with
    | 0, _ => exact ⟨_, c0, rfl⟩
    | 1, _ => exact ⟨_, c1, rfl⟩
    | 2, _ => exact ⟨_, c2, rfl⟩
    | 3, _ => exact ⟨_, c3, rfl⟩
    | 4, _ => exact ⟨_, c4, rfl⟩
    | 5, _ => exact ⟨_, c5, rfl⟩
    | 6, _ => exact ⟨_, c6, rfl⟩
    | 7, _ => exact ⟨_, c7, rfl⟩
  refine ⟨(List.range (n * 8)).map (fun j => (w.cell? ⟨b, off + j, none⟩).getD (.int .i64 0)), by simp, fun j u hu => ?_, fun u hu => ?_⟩
  · rw [List.getElem?_map] at hu
    have hlt : j < n * 8 := by
      apply Classical.byContradiction
      intro hn
      rw [List.getElem?_eq_none (by simpa using Nat.le_of_not_lt hn)] at hu
      cases hu
    obtain ⟨v, hv, _⟩ := hj j hlt
    simp [List.getElem?_range hlt, hv] at hu
    rw [← hu]
    exact hv
  · obtain ⟨j, hm, rfl⟩ := List.mem_map.1 hu
    obtain ⟨v, hv, h1⟩ := hj j (List.mem_range.1 hm)
    rw [hv]
    exact h1
theorem tbl_fit {ts : List Th} (h : tblOk ts = true) {k l : Nat} {t : Th} (hx : ts[k]? = some t) {x : Rt} (hl : t.slots[l]? = some x) : fitB ts x = true := by
  unfold tblOk at h
  simp only [Bool.and_eq_true, List.all_eq_true] at h
  exact h.2 x (List.mem_flatMap.2 ⟨t, List.mem_of_getElem? hx, List.mem_of_getElem? hl⟩)
theorem tbl_gate {ts : List Th} (h : tblOk ts = true) {k : Nat} {t : Th} (hx : ts[k]? = some t) (h5 : (t.kind == 5) = true) : ∃ (j : Nat) (t' : Th), t.tg = (j : Int) + 1 ∧ ts[j]? = some t' ∧ t'.kind = 1 := by
  unfold tblOk at h
  simp only [Bool.and_eq_true, List.all_eq_true] at h
  have hg := (h.1.2 t (List.mem_of_getElem? hx)).2
  unfold gateB at hg
  rw [h5] at hg
  simp only [Bool.not_true, Bool.false_or] at hg
  obtain ⟨j, hj, hjm⟩ := inB_nat (kindAtB_in hg)
  have hxj : ts[j]? = some ts[j] := by simp [hjm]
  refine ⟨j, ts[j], hj, hxj, ?_⟩
  unfold kindAtB at hg
  rw [hj, show ((j : Int) + 1 - 1).toNat = j by omega, hxj] at hg
  simp only [Bool.and_eq_true] at hg
  simpa using hg.2
theorem fit_cases {ts : List Th} {x : Rt} (h : fitB ts x = true) : x.t = 0 ∨ ∃ (j : Nat) (t' : Th), x.t = (j : Int) + 1 ∧ ts[j]? = some t' ∧ x.v ≤ t'.vers := by
  unfold fitB at h
  rw [Bool.or_eq_true] at h
  rcases h with h | h
  · exact .inl (by simpa using h)
  · rw [Bool.and_eq_true] at h
    obtain ⟨j, hj, hjm⟩ := inB_nat h.1
    have hxj : ts[j]? = some ts[j] := by simp [hjm]
    refine .inr ⟨j, ts[j], hj, hxj, ?_⟩
    have h2 := h.2
    rw [hj, show ((j : Int) + 1 - 1).toNat = j by omega, hxj] at h2
    simpa using h2
set_option maxHeartbeats 4000000 in
set_option maxRecDepth 100000 in
theorem fnTableForm_walk (v : World) (a : Option Addr) (len cap : Nat) (z : List Int) (hr : IsRow .u8 v a len cap z) :
    Calls Try.prog 5 #[.slice a len cap] v fun e w' => e = .returned (.bool true) ∧ Below v.heap.size v w' := by
  by_cases hl : 1048576 < len
  · go_enter Try.func5, Try.ntmps5
    go_wp2_with fail
    go_ret
    exact ⟨rfl, Below.refl _ _⟩
  go_enter Try.func5, Try.ntmps5
  go_wp2_with fail
  refine (drawTableOk_any _ _ _ _ _ hr).mono ?_
  rintro e w ⟨ts, ta, c, rfl, h3, h8, hT, t0⟩
  clear hr hl
  have tt : Below w.heap.size w w := Below.refl _ _
  have CI := hid (fun u (hu : Below w.heap.size w u) => tableOk_any ta c ts u (hT.below hu))
  have CS := hid (fun u (hu : Below w.heap.size w u) => stableOk_any ta c ts u (hT.below hu))
  have CN := hid (fun u => tableOk_any none 0 [] u (.inl rfl))
  rw [show tblOk [] = false from rfl] at CN
  cases e1 : tblOk ts
  · rw [e1] at CI CS
    clear e1 hT
    generalize ts.length = m at *
    go_wp2_with (first | (go_at_call 20; refine (CI.out _ (by (have zt := tt.size); (repeat (first | with_reducible exact tt | (with_reducible refine Below.setCell ?_ ?_ _) | (with_reducible refine Below.alloc ?_ ?_ _) | with_reducible refine Below.drew ?_)); (all_goals (first | omega | (simp <;> omega))))).mono ?_; rintro e w' ⟨rfl, hb⟩; skip; have zt := tt.size; (replace tt : Below w.heap.size w w' := by (refine Below.trans ?_ (hb.mono ?_)); (all_goals (repeat (first | with_reducible exact tt | (with_reducible refine Below.setCell ?_ ?_ _) | (with_reducible refine Below.alloc ?_ ?_ _) | with_reducible refine Below.drew ?_)); (all_goals (first | omega | (simp <;> omega))))); clear zt; skip; clear hb) | (go_at_call 21; refine (CS.out _ (by (have zt := tt.size); (repeat (first | with_reducible exact tt | (with_reducible refine Below.setCell ?_ ?_ _) | (with_reducible refine Below.alloc ?_ ?_ _) | with_reducible refine Below.drew ?_)); (all_goals (first | omega | (simp <;> omega))))).mono ?_; rintro e w' ⟨rfl, hb⟩; skip; have zt := tt.size; (replace tt : Below w.heap.size w w' := by (refine Below.trans ?_ (hb.mono ?_)); (all_goals (repeat (first | with_reducible exact tt | (with_reducible refine Below.setCell ?_ ?_ _) | (with_reducible refine Below.alloc ?_ ?_ _) | with_reducible refine Below.drew ?_)); (all_goals (first | omega | (simp <;> omega))))); clear zt; skip; clear hb))
    go_ret
    exact ⟨rfl, t0.trans (tt.mono t0.size)⟩
  rw [e1] at CI CS
  have HL := hid (fun (a : Option Addr) (m cap : Nat) (u : World) => tableOk_long a m cap u)
  have h0x : ts[0]? = some ts[0] := by simp
  obtain ⟨b, off, rfl, hb, hh⟩ := hT.get h0x
  clear hh
  have HG := hid (show ∀ (i : Nat) (t : Th), ts[i]? = some t → At8 w b (off + i * 8) t from fun i t hx => by
    obtain ⟨b', off', e, _, h⟩ := hT.get hx
    cases e
    exact h w (Below.refl _ _))
  have HM := hid (show ∀ i, i < ts.length → ∃ t, ts[i]? = some t from fun i hi => ⟨ts[i], by simp [hi]⟩)
  have HF := hid (fun (k l : Nat) (t : Th) (hx : ts[k]? = some t) (x : Rt) (hl : t.slots[l]? = some x) => fit_cases (tbl_fit e1 hx hl))
  have HK := hid (fun (k : Nat) (t : Th) (hx : ts[k]? = some t) (h5 : (t.kind == 5) = true) => tbl_gate e1 hx h5)
  have HJ := hid (show ∀ (j : Nat) (t : Th), ts[j]? = some t → j < ts.length from fun j t h => (List.getElem?_eq_some_iff.1 h).1)
  clear e1 hT h0x
  generalize ts.length = m at *
  go_wp2_with fail
  refine (CI.out _ tt).mono ?_
  rintro e w1 ⟨rfl, h⟩
  replace tt := tt.trans (h.mono tt.size)
  clear h
  go_wp2_with fail
  refine (CS.out _ tt).mono ?_
  rintro e w2 ⟨rfl, h⟩
  replace tt := tt.trans (h.mono tt.size)
  clear h
  go_wp2_with fail
  go_loopw [5] (fun i wr => ∃ k : Nat, i = .int .i64 (k : Int) ∧ k ≤ m ∧ Below w.heap.size w wr) (fun i _ => ((m : Int) - intOf i).toNat)
  case atStart => exact ⟨0, rfl, by omega, tt⟩
  case round =>
    clear tt
    obtain ⟨k, rfl, hk, tt⟩ := hrel
    by_cases hkm : k < m
    · obtain ⟨t, hx⟩ := HM.out k hkm
      obtain ⟨sa, sc, qa, qc, c0, c1, c2, c3, c4, c5, c6, c7, hR, hQ⟩ := HG.out k t hx
      have HX := hid hx
      have HR := hid hR
      have C0 := hid c0
      have C5 := hid c5
      have C7 := hid c7
      have hrl := hR.len
      clear hx hR hQ c0 c1 c2 c3 c4 c5 c6 c7
      go_wp2_with fail
      have HN := hid (show ∀ l, l < t.slots.length → ∃ x, t.slots[l]? = some x from fun l hl => ⟨t.slots[l], by simp [hl]⟩)
      go_loopw [6] (fun i wr => ∃ l : Nat, i = .int .i64 (l : Int) ∧ l ≤ t.slots.length ∧ Below w.heap.size w wr) (fun i _ => ((t.slots.length : Int) - intOf i).toNat)
      case atStart => exact ⟨0, rfl, by omega, tt⟩
      case round =>
        clear tt
        obtain ⟨l, rfl, hl, tt⟩ := hrel
        have zt := tt.size
        have c5 := (tt.cell (p := ⟨b, _, none⟩) hb).trans C5.out
        by_cases hlm : l < t.slots.length
        · obtain ⟨g, go_, x, rfl, hxl, hg, q0, q1, q2, q3, q4⟩ := HR.out.at hlm
          have hfit := HF.out _ _ _ HX.out _ hxl
          replace q0 := (tt.cell (p := ⟨g, _, none⟩) hg).trans q0
          replace q1 := (tt.cell (p := ⟨g, _, none⟩) hg).trans q1
          replace q2 := (tt.cell (p := ⟨g, _, none⟩) hg).trans q2
          replace q3 := (tt.cell (p := ⟨g, _, none⟩) hg).trans q3
          replace q4 := (tt.cell (p := ⟨g, _, none⟩) hg).trans q4
          obtain ⟨xt, xv, xr, xw, xk⟩ := x
          dsimp only at q0 q1 q2 q3 q4 hfit
          have HX2 := hid hxl
          clear hxl
          generalize en : t.slots.length = n at *
          go_upto_region 14 with fail
          have hX := own_new wr (.cells #[.int .i64 xt, .int .i64 xv, .bool xr, .bool xw, .bool xk] 44)
          have hB := (Below.refl wr.heap.size wr).alloc (Nat.le_refl _) (.cells #[.int .i64 xt, .int .i64 xv, .bool xr, .bool xw, .bool xk] 44)
          have t5 := tt.trans (hB.mono zt)
          clear hB q0 q1 q2 q3 q4 c5
          generalize wr.heap.size = X at *
          refine named (p := fun W => Code.wp _ _ _ _ W) _ ?_
          intro W hW
          replace hX := own_eq hW hX
          rw [hW] at t5
          clear hW
          rcases hfit with hx0 | ⟨j, tj, rfl, hxj, hv⟩
          · have d1 : decide ((m : Int) < xt) = false := decide_eq_false (by omega)
            have d2 : decide (0 < xt) = false := decide_eq_false (by omega)
            clear hx0
            refine wp_region_quiet_below (by kernel_rfl) (by kernel_rfl) ?_
            iterate 9 ((with_reducible apply qval); (case hw => exact rfl); (case h => (intro u hu; obtain ⟨_, _⟩ := own_cells (own_below hu hX); go_simp; exact rfl)); (intro K hK; go_simp; (with_reducible refine hK _ ?_); clear hK K))
            refine qval_skips (.bool false) 10 rfl (by kernel_rfl) ?h0 ?hk0
            case h0 => (intro u hu; go_simp)
            intro K hK
            simp only [skipAct, List.drop_succ_cons, List.drop_zero] at hK ⊢
            go_simp
            refine hK _ ?_
            clear hK K
            iterate 2 ((with_reducible apply qval); (case hw => exact rfl); (case h => (intro u hu; obtain ⟨_, _⟩ := own_cells (own_below hu hX); go_simp; exact rfl)); (intro K hK; go_simp; (with_reducible refine hK _ ?_); clear hK K))
            refine wpQuiet_nil ?_
            intro u hu
            have tu := t5.trans (hu.mono t5.size)
            clear hX t5 hu d1 d2
            go_wp2_with fail
            go_roundw
            case rel => exact ⟨l + 1, by go_num, by omega, tu⟩
            case measure => simp [intOf]; omega
          · have hjm := HJ.out j tj hxj
            have FV : ∀ u, Below w.heap.size w u → u.cell? ⟨b, off + j * 8 + 3, none⟩ = some (.int .i64 tj.vers) := fun u hu => ((HG.out j tj hxj).below hu hb).vrs
            have hwj := wr_small hjm (show m ≤ 9223372036854775807 by omega)
            have d1 : decide ((m : Int) < (j : Int) + 1) = false := decide_eq_false (by omega)
            have d2 : decide (0 < (j : Int) + 1) = true := decide_eq_true (by omega)
            have d3 : decide (tj.vers < xv) = false := decide_eq_false (by omega)
            clear hxj hv
            generalize tj.vers = ve at *
            refine wp_region_quiet_below (by kernel_rfl) (by kernel_rfl) ?_
            repeat (first
              | ((with_reducible apply qskip); (case hw => exact rfl); (intro K hK; go_simp; (with_reducible refine hK _ ?_); clear hK K))
              | ((with_reducible apply qval); (case hw => exact rfl); (case h => (intro u hu; obtain ⟨_, _⟩ := own_cells (own_below hu hX); have := FV u (t5.trans (hu.mono t5.size)); go_simp; exact rfl)); (intro K hK; go_simp; (with_reducible refine hK _ ?_); clear hK K)))
            refine wpQuiet_nil ?_
            intro u hu
            have tu := t5.trans (hu.mono t5.size)
            clear hX t5 hu d1 d2 d3 FV
            go_wp2_with fail
            go_roundw
            case rel => exact ⟨l + 1, by go_num, by omega, tu⟩
            case measure => simp [intOf]; omega
        · have c0 := (tt.cell (p := ⟨b, _, none⟩) hb).trans C0.out
          have c7 := (tt.cell (p := ⟨b, _, none⟩) hb).trans C7.out
          cases h5 : (t.kind == 5)
          · generalize t.kind = kd at *
            generalize t.slots.length = n at *
            go_wp2_with fail
            go_roundw
            case rel => exact ⟨k + 1, by go_num, by omega, tt⟩
            case measure => simp [intOf]; omega
          · obtain ⟨j, tj, etg, hxj, hkj⟩ := HK.out _ _ HX.out h5
            have hjm := HJ.out j tj hxj
            have hwj := wr_small hjm (show m ≤ 9223372036854775807 by omega)
            have cJ := (tt.cell (p := ⟨b, _, none⟩) hb).trans (HG.out j tj hxj).knd
            rw [hkj] at cJ
            rw [etg] at c7
            clear hxj hkj
            generalize t.kind = kd at *
            generalize t.slots.length = n at *
            go_wp2_with fail
            go_roundw
            case rel => exact ⟨k + 1, by go_num, by omega, tt⟩
            case measure => simp [intOf]; omega
    · have hkk : k = m := by omega
      subst hkk
      have zt := tt.size
      obtain ⟨news, hnl, hnc, hn1⟩ := rowCells (w := w) (b := b) (off := off) (n := k) (fun i hi => by obtain ⟨t, hx⟩ := HM.out i hi; exact ⟨t, HG.out i t hx⟩)
      obtain ⟨t, hx⟩ := HM.out 0 (by omega)
      have H8 := hid (HG.out 0 t hx)
      clear hx hkm
      have hE := own_new wr (.cells #[] 28)
      have hB := (Below.refl wr.heap.size wr).alloc (Nat.le_refl _) (.cells #[] 28)
      have hown : (wr.alloc (.cells #[] 28)).ownsRow w.heap.size 28 8 (.slice (some ⟨wr.heap.size, 0, none⟩) 0 0) 0 [] := ⟨rfl, .inr ⟨wr.heap.size, 0, #[], rfl, zt, hE, Nat.le_refl _, by unfold maxLen; omega, rfl, rfl⟩⟩
      have tB := tt.trans (hB.mono zt)
      obtain ⟨i0, hi, hz0, hz1, hz2⟩ := info_parts infoTh
      go_wp2_with (at_builtin; refine wpList_append_own _ rfl _ _ 40 rfl w.heap.size 28 i0 (.agg #[.int .i64 0, .int .i64 0, .int .i64 0, .int .i64 0, .int .i64 0, .slice none 0 0, .slice none 0 0, .int .i64 0]) 8 96 (by kernel_rfl) hi hz0 hz1 hz2 rfl (by decide) _ _ _ rfl hown ⟨b, off, none⟩ k c news rfl hnl (fun j u hu => by rw [Addr.add_lit]; exact (tB.cell (p := ⟨b, off + j, none⟩) hb).trans (hnc j u hu)) hn1 (by unfold maxLen; omega) (by omega) (by simp; omega) ?_)
      intro v' u' hown' hgr _
      have hbw := grown_below hgr (fun k hk => (hown.lt k hk).1) (by simp; omega)
      have tu := tB.trans (hbw.mono (Nat.le_refl _))
      clear hE hB hown hgr hbw tt tB hnl hnc hn1
      try rw [Nat.zero_add] at hown'
      obtain ⟨a', c', rfl⟩ := ownsRow_slice hown'
      go_wp2_with fail
      go_loopw [8] (fun tv wr => ∃ (n : Nat) (a' : Option Addr) (c' : Nat) (xs : List Value), tv = .slice a' n c' ∧ k ≤ n ∧ n ≤ 9 ∧ wr.ownsRow w.heap.size 28 8 (.slice a' n c') n xs ∧ Below w.heap.size w wr) (fun tv _ => 9 - lenOf tv)
      case atStart => exact ⟨k, _, _, _, rfl, by omega, by omega, hown', tu⟩
      case round =>
        clear hown' tu
        obtain ⟨n, a'', c'', xs, rfl, hkn, hn9, hown, tt⟩ := hrel
        have zt := tt.size
        by_cases hn : n ≤ 8
        · obtain ⟨sa, sc, qa, qc, c0, c1, c2, c3, c4, c5, c6, c7, hR, hQ⟩ := H8.out
          rw [Nat.zero_mul, Nat.add_zero] at c0 c1 c2 c3 c4 c5 c6 c7
          replace c0 := (tt.cell (p := ⟨b, _, none⟩) hb).trans c0
          replace c1 := (tt.cell (p := ⟨b, _, none⟩) hb).trans c1
          replace c2 := (tt.cell (p := ⟨b, _, none⟩) hb).trans c2
          replace c3 := (tt.cell (p := ⟨b, _, none⟩) hb).trans c3
          replace c4 := (tt.cell (p := ⟨b, _, none⟩) hb).trans c4
          replace c5 := (tt.cell (p := ⟨b, _, none⟩) hb).trans c5
          replace c6 := (tt.cell (p := ⟨b, _, none⟩) hb).trans c6
          replace c7 := (tt.cell (p := ⟨b, _, none⟩) hb).trans c7
          have hsl := hR.len
          have hql := hQ.len
          clear hR hQ
          generalize t.slots.length = sn at *
          generalize t.queue.length = qn at *
          have hY := own_new wr (.cells #[.int .i64 t.kind, .int .i64 t.sec, .int .i64 t.vou, .int .i64 t.vers, .int .i64 t.num, .slice sa sn sc, .slice qa qn qc, .int .i64 t.tg] 28)
          have hB := (Below.refl wr.heap.size wr).alloc (Nat.le_refl _) (.cells #[.int .i64 t.kind, .int .i64 t.sec, .int .i64 t.vou, .int .i64 t.vers, .int .i64 t.num, .slice sa sn sc, .slice qa qn qc, .int .i64 t.tg] 28)
          have tB := tt.trans (hB.mono zt)
          replace hown := ownsRow_below hown hB
          go_wp2_with (at_builtin; refine wpList_append_own _ rfl _ _ 40 rfl w.heap.size 28 i0 (.agg #[.int .i64 0, .int .i64 0, .int .i64 0, .int .i64 0, .int .i64 0, .slice none 0 0, .slice none 0 0, .int .i64 0]) 8 96 (by kernel_rfl) hi hz0 hz1 hz2 rfl (by decide) _ _ _ rfl hown ⟨wr.heap.size, 0, none⟩ 1 1 (Tc.cells ⟨t.kind, t.sec, t.vou, t.vers, t.num, sa, sn, sc, qa, qn, qc, t.tg⟩) rfl rfl (cell_news hY) (fun v hv => by simp [Tc.cells] at hv; rcases hv with rfl | rfl | rfl | rfl | rfl | rfl | rfl | rfl <;> rfl) (by unfold maxLen; omega) (by omega) (by simp; omega) ?_)
          intro v' u' hown' hgr _
          have hbw := grown_below hgr (fun k hk => (hown.lt k hk).1) (by simp; omega)
          have tu := tB.trans (hbw.mono (Nat.le_refl _))
          clear hY hB hown hgr hbw tt tB c0 c1 c2 c3 c4 c5 c6 c7
          obtain ⟨a3, c3, rfl⟩ := ownsRow_slice hown'
          go_wp2_with fail
          go_roundw
          case rel => exact ⟨n + 1, _, _, _, rfl, by omega, by omega, hown', tu⟩
          case measure => simp [lenOf]; omega
        · go_wp2_with fail
          refine (CN.out _).mono ?_
          rintro e w3 ⟨rfl, h⟩
          replace tt := tt.trans (h.mono tt.size)
          clear h
          go_wp2_with fail
          refine (HL.out _ _ _ _ (by simp [inB]; omega) (by omega)).mono ?_
          rintro e w4 ⟨rfl, h⟩
          replace tt := tt.trans (h.mono tt.size)
          clear h
          go_wp2_with fail
          go_ret
          exact ⟨rfl, t0.trans (tt.mono t0.size)⟩
end Go.Proofs.Ytnhilnikhjgfhaa
