/- Contracts of the laws' own comparisons ldThing and ldTable: they tell whether the two are the same. No condition but where these lie. -/
import Derived.Test.YtcgmnpppdoadhaaDoorChk
namespace Go.Proofs.YtcgmnpppdoadhaaDoor
set_option maxRecDepth 100000
open Go Go.RowKit
set_option linter.unusedVariables false
set_option linter.unusedSimpArgs false

noncomputable def thEq (t t' : Th) : Bool := @decide (t = t') (Classical.propDecidable _)
noncomputable def tblEq (ts ts' : List Th) : Bool := @decide (ts = ts') (Classical.propDecidable _)
theorem thEq_yes {t t' : Th} (h : t = t') : thEq t t' = true := by unfold thEq; exact @decide_eq_true _ (Classical.propDecidable _) h
theorem thEq_no {t t' : Th} (h : ¬ t = t') : thEq t t' = false := by unfold thEq; exact @decide_eq_false _ (Classical.propDecidable _) h
theorem thEq_of {t t' : Th} (h : thEq t t' = true) : t = t' := by unfold thEq at h; exact @of_decide_eq_true _ (Classical.propDecidable _) h
theorem thEq_not {t t' : Th} (h : thEq t t' = false) : ¬ t = t' := by unfold thEq at h; exact @of_decide_eq_false _ (Classical.propDecidable _) h
theorem tblEq_yes {t t' : List Th} (h : t = t') : tblEq t t' = true := by unfold tblEq; exact @decide_eq_true _ (Classical.propDecidable _) h
theorem tblEq_no {t t' : List Th} (h : ¬ t = t') : tblEq t t' = false := by unfold tblEq; exact @decide_eq_false _ (Classical.propDecidable _) h
theorem ext_upto {α : Type} {xs ys : List α} {n : Nat} (h1 : xs.length = n) (h2 : ys.length = n) (h : ∀ j, j < n → xs[j]? = ys[j]?) : xs = ys := by
  apply List.ext_getElem?
  intro j
  by_cases hj : j < n
  · exact h j hj
  · rw [List.getElem?_eq_none (by omega), List.getElem?_eq_none (by omega)]
set_option maxHeartbeats 4000000 in
set_option maxRecDepth 100000 in
theorem ldThing_any (k s v ve nu tg k' s' v' ve' nu' tg' : Int) (sa qa sa' qa' : Option Addr) (rs rs' : List Rt) (qs qs' : List Int) (sc qc sc' qc' : Nat) (w : World) (hR : RowR w sa rs) (hQ : RowI w qa qs) (hR' : RowR w sa' rs') (hQ' : RowI w qa' qs') :
    Calls Tryd.prog 35 #[.agg #[.int .i64 k, .int .i64 s, .int .i64 v, .int .i64 ve, .int .i64 nu, .slice sa rs.length sc, .slice qa qs.length qc, .int .i64 tg], .agg #[.int .i64 k', .int .i64 s', .int .i64 v', .int .i64 ve', .int .i64 nu', .slice sa' rs'.length sc', .slice qa' qs'.length qc', .int .i64 tg']] w fun e w' => e = .returned (.bool (thEq ⟨k, s, v, ve, nu, rs, qs, tg⟩ ⟨k', s', v', ve', nu', rs', qs', tg'⟩)) ∧ Below w.heap.size w w' := by
  have HR := hid hR
  have HQ := hid hQ
  have HR' := hid hR'
  have HQ' := hid hQ'
  have hl1 := hR.len
  have hl2 := hR'.len
  have hl3 := hQ.len
  have hl4 := hQ'.len
  obtain ⟨n, en⟩ : ∃ n, n = rs.length := ⟨_, rfl⟩
  obtain ⟨n', en'⟩ : ∃ n', n' = rs'.length := ⟨_, rfl⟩
  obtain ⟨m, em⟩ : ∃ m, m = qs.length := ⟨_, rfl⟩
  obtain ⟨m', em'⟩ : ∃ m', m' = qs'.length := ⟨_, rfl⟩
  rw [← en] at hl1
  rw [← en'] at hl2
  rw [← em] at hl3
  rw [← em'] at hl4
  rw [← en, ← en', ← em, ← em']
  have EN := hid en
  have EN' := hid en'
  have EM := hid em
  have EM' := hid em'
  clear en en' em em' hR hQ hR' hQ'
  have tt : Below w.heap.size w ((w.alloc (.cells #[.int .i64 k, .int .i64 s, .int .i64 v, .int .i64 ve, .int .i64 nu, .slice sa n sc, .slice qa m qc, .int .i64 tg] 36)).alloc (.cells #[.int .i64 k', .int .i64 s', .int .i64 v', .int .i64 ve', .int .i64 nu', .slice sa' n' sc', .slice qa' m' qc', .int .i64 tg'] 36)) := ((Below.refl _ _).alloc (Nat.le_refl _) _).alloc (by simp) _
  by_cases h_k : k = k'
  case neg =>
    have hb : (k != k') = true := by simpa using h_k
    have q := thEq_no (t := ⟨k, s, v, ve, nu, rs, qs, tg⟩) (t' := ⟨k', s', v', ve', nu', rs', qs', tg'⟩) (fun e => h_k (by injection e))
    rw [q]
    clear q
    go_enter Tryd.func35, Tryd.ntmps35
    go_wp2_with fail
    go_ret
    refine ⟨rfl, ?_⟩
    have zt := tt.size
    (repeat (first | with_reducible exact tt | (with_reducible refine Below.setCell ?_ ?_ _) | (with_reducible refine Below.alloc ?_ ?_ _) | (with_reducible refine Below.drew ?_) | with_reducible refine Below.drewN' ?_ _)); (all_goals (first | omega | (simp <;> omega)))
  subst h_k
  by_cases h_s : s = s'
  case neg =>
    skip
    have q := thEq_no (t := ⟨k, s, v, ve, nu, rs, qs, tg⟩) (t' := ⟨k, s', v', ve', nu', rs', qs', tg'⟩) (fun e => h_s (by injection e))
    rw [q]
    clear q
    go_enter Tryd.func35, Tryd.ntmps35
    go_wp2_with fail
    go_ret
    refine ⟨rfl, ?_⟩
    have zt := tt.size
    (repeat (first | with_reducible exact tt | (with_reducible refine Below.setCell ?_ ?_ _) | (with_reducible refine Below.alloc ?_ ?_ _) | (with_reducible refine Below.drew ?_) | with_reducible refine Below.drewN' ?_ _)); (all_goals (first | omega | (simp <;> omega)))
  subst h_s
  by_cases h_v : v = v'
  case neg =>
    skip
    have q := thEq_no (t := ⟨k, s, v, ve, nu, rs, qs, tg⟩) (t' := ⟨k, s, v', ve', nu', rs', qs', tg'⟩) (fun e => h_v (by injection e))
    rw [q]
    clear q
    go_enter Tryd.func35, Tryd.ntmps35
    go_wp2_with fail
    go_ret
    refine ⟨rfl, ?_⟩
    have zt := tt.size
    (repeat (first | with_reducible exact tt | (with_reducible refine Below.setCell ?_ ?_ _) | (with_reducible refine Below.alloc ?_ ?_ _) | (with_reducible refine Below.drew ?_) | with_reducible refine Below.drewN' ?_ _)); (all_goals (first | omega | (simp <;> omega)))
  subst h_v
  by_cases h_ve : ve = ve'
  case neg =>
    have hb : (ve != ve') = true := by simpa using h_ve
    have q := thEq_no (t := ⟨k, s, v, ve, nu, rs, qs, tg⟩) (t' := ⟨k, s, v, ve', nu', rs', qs', tg'⟩) (fun e => h_ve (by injection e))
    rw [q]
    clear q
    go_enter Tryd.func35, Tryd.ntmps35
    go_wp2_with fail
    go_ret
    refine ⟨rfl, ?_⟩
    have zt := tt.size
    (repeat (first | with_reducible exact tt | (with_reducible refine Below.setCell ?_ ?_ _) | (with_reducible refine Below.alloc ?_ ?_ _) | (with_reducible refine Below.drew ?_) | with_reducible refine Below.drewN' ?_ _)); (all_goals (first | omega | (simp <;> omega)))
  subst h_ve
  by_cases h_nu : nu = nu'
  case neg =>
    have hb : (nu != nu') = true := by simpa using h_nu
    have q := thEq_no (t := ⟨k, s, v, ve, nu, rs, qs, tg⟩) (t' := ⟨k, s, v, ve, nu', rs', qs', tg'⟩) (fun e => h_nu (by injection e))
    rw [q]
    clear q
    go_enter Tryd.func35, Tryd.ntmps35
    go_wp2_with fail
    go_ret
    refine ⟨rfl, ?_⟩
    have zt := tt.size
    (repeat (first | with_reducible exact tt | (with_reducible refine Below.setCell ?_ ?_ _) | (with_reducible refine Below.alloc ?_ ?_ _) | (with_reducible refine Below.drew ?_) | with_reducible refine Below.drewN' ?_ _)); (all_goals (first | omega | (simp <;> omega)))
  subst h_nu
  by_cases h_tg : tg = tg'
  case neg =>
    have hb : (tg != tg') = true := by simpa using h_tg
    have q := thEq_no (t := ⟨k, s, v, ve, nu, rs, qs, tg⟩) (t' := ⟨k, s, v, ve, nu, rs', qs', tg'⟩) (fun e => h_tg (by injection e))
    rw [q]
    clear q
    go_enter Tryd.func35, Tryd.ntmps35
    go_wp2_with fail
    go_ret
    refine ⟨rfl, ?_⟩
    have zt := tt.size
    (repeat (first | with_reducible exact tt | (with_reducible refine Below.setCell ?_ ?_ _) | (with_reducible refine Below.alloc ?_ ?_ _) | (with_reducible refine Below.drew ?_) | with_reducible refine Below.drewN' ?_ _)); (all_goals (first | omega | (simp <;> omega)))
  subst h_tg
  by_cases h_n : n = n'
  case neg =>
    have hb : ((n : Int) != (n' : Int)) = true := by simp; omega
    have q := thEq_no (t := ⟨k, s, v, ve, nu, rs, qs, tg⟩) (t' := ⟨k, s, v, ve, nu, rs', qs', tg⟩) (fun e => h_n (by injection e; rw [EN.out, EN'.out]; simp_all))
    rw [q]
    clear q
    go_enter Tryd.func35, Tryd.ntmps35
    go_wp2_with fail
    go_ret
    refine ⟨rfl, ?_⟩
    have zt := tt.size
    (repeat (first | with_reducible exact tt | (with_reducible refine Below.setCell ?_ ?_ _) | (with_reducible refine Below.alloc ?_ ?_ _) | (with_reducible refine Below.drew ?_) | with_reducible refine Below.drewN' ?_ _)); (all_goals (first | omega | (simp <;> omega)))
  subst h_n
  by_cases h_m : m = m'
  case neg =>
    have hb : ((m : Int) != (m' : Int)) = true := by simp; omega
    have q := thEq_no (t := ⟨k, s, v, ve, nu, rs, qs, tg⟩) (t' := ⟨k, s, v, ve, nu, rs', qs', tg⟩) (fun e => h_m (by injection e; rw [EM.out, EM'.out]; simp_all))
    rw [q]
    clear q
    go_enter Tryd.func35, Tryd.ntmps35
    go_wp2_with fail
    go_ret
    refine ⟨rfl, ?_⟩
    have zt := tt.size
    (repeat (first | with_reducible exact tt | (with_reducible refine Below.setCell ?_ ?_ _) | (with_reducible refine Below.alloc ?_ ?_ _) | (with_reducible refine Below.drew ?_) | with_reducible refine Below.drewN' ?_ _)); (all_goals (first | omega | (simp <;> omega)))
  subst h_m
  have hA := own_alloc (own_new w (.cells #[.int .i64 k, .int .i64 s, .int .i64 v, .int .i64 ve, .int .i64 nu, .slice sa n sc, .slice qa m qc, .int .i64 tg] 36)) (.cells #[.int .i64 k, .int .i64 s, .int .i64 v, .int .i64 ve, .int .i64 nu, .slice sa' n sc', .slice qa' m qc', .int .i64 tg] 36)
  have hB := own_new (w.alloc (.cells #[.int .i64 k, .int .i64 s, .int .i64 v, .int .i64 ve, .int .i64 nu, .slice sa n sc, .slice qa m qc, .int .i64 tg] 36)) (.cells #[.int .i64 k, .int .i64 s, .int .i64 v, .int .i64 ve, .int .i64 nu, .slice sa' n sc', .slice qa' m qc', .int .i64 tg] 36)
  simp only [World.size_alloc] at hB
  go_enter Tryd.func35, Tryd.ntmps35
  go_wp2_with fail
  go_loopw [5] (fun i wr => ∃ q : Nat, i = .int .i64 (q : Int) ∧ q ≤ n ∧ Below w.heap.size w wr ∧ wr.heap[w.heap.size]? = some (.cells #[.int .i64 k, .int .i64 s, .int .i64 v, .int .i64 ve, .int .i64 nu, .slice sa n sc, .slice qa m qc, .int .i64 tg] 36 (0, 0)) ∧ wr.heap[w.heap.size + 1]? = some (.cells #[.int .i64 k, .int .i64 s, .int .i64 v, .int .i64 ve, .int .i64 nu, .slice sa' n sc', .slice qa' m qc', .int .i64 tg] 36 (0, 0)) ∧ Hid (∀ j, j < q → rs[j]? = rs'[j]?)) (fun i _ => ((n : Int) - intOf i).toNat)
  case atStart => exact ⟨0, rfl, by omega, tt, hA, hB, hid (fun j hj => by omega)⟩
  case round =>
    clear tt hA hB
    obtain ⟨q, rfl, hqn, tt, hA, hB, HS⟩ := hrel
    by_cases hq : q < n
    · have hwq := wr_small hq hl1
      obtain ⟨b, off, x, rfl, hx, hlt, hc⟩ := HR.out.at (k := q) (by rw [← EN.out]; exact hq)
      obtain ⟨b', off', y, rfl, hy, hlt', hc'⟩ := HR'.out.at (k := q) (by rw [← EN'.out]; exact hq)
      obtain ⟨x0, x1, x2, x3, x4⟩ := hc.below tt hlt
      obtain ⟨y0, y1, y2, y3, y4⟩ := hc'.below tt hlt'
      have HX := hid hx
      have HY := hid hy
      obtain ⟨xt, xv, xr, xw, xk⟩ := x
      obtain ⟨yt, yv, yr, yw, yk⟩ := y
      dsimp only at x0 x1 x2 x3 x4 y0 y1 y2 y3 y4
      clear hx hy hc hc'
      have X0 := fun u (hu : Below wr.heap.size wr u) => (hu.cell (p := ⟨b, _, none⟩) (Nat.lt_of_lt_of_le hlt tt.size)).trans x0
      have Y0 := fun u (hu : Below wr.heap.size wr u) => (hu.cell (p := ⟨b', _, none⟩) (Nat.lt_of_lt_of_le hlt' tt.size)).trans y0
      have X1 := fun u (hu : Below wr.heap.size wr u) => (hu.cell (p := ⟨b, _, none⟩) (Nat.lt_of_lt_of_le hlt tt.size)).trans x1
      have Y1 := fun u (hu : Below wr.heap.size wr u) => (hu.cell (p := ⟨b', _, none⟩) (Nat.lt_of_lt_of_le hlt' tt.size)).trans y1
      have X2 := fun u (hu : Below wr.heap.size wr u) => (hu.cell (p := ⟨b, _, none⟩) (Nat.lt_of_lt_of_le hlt tt.size)).trans x2
      have Y2 := fun u (hu : Below wr.heap.size wr u) => (hu.cell (p := ⟨b', _, none⟩) (Nat.lt_of_lt_of_le hlt' tt.size)).trans y2
      have X3 := fun u (hu : Below wr.heap.size wr u) => (hu.cell (p := ⟨b, _, none⟩) (Nat.lt_of_lt_of_le hlt tt.size)).trans x3
      have Y3 := fun u (hu : Below wr.heap.size wr u) => (hu.cell (p := ⟨b', _, none⟩) (Nat.lt_of_lt_of_le hlt' tt.size)).trans y3
      have X4 := fun u (hu : Below wr.heap.size wr u) => (hu.cell (p := ⟨b, _, none⟩) (Nat.lt_of_lt_of_le hlt tt.size)).trans x4
      have Y4 := fun u (hu : Below wr.heap.size wr u) => (hu.cell (p := ⟨b', _, none⟩) (Nat.lt_of_lt_of_le hlt' tt.size)).trans y4
      clear x0 x1 x2 x3 x4 y0 y1 y2 y3 y4
      obtain ⟨cA, fA⟩ := own_cells hA
      obtain ⟨cB, fB⟩ := own_cells hB
      go_upto_region 6 with fail
      clear cA fA cB fB
      refine wp_region_quiet_below (by kernel_rfl) (by kernel_rfl) ?_
      by_cases h_xt : xt = yt
      case neg =>
        have hne : ¬ (rs = rs') := fun e => h_xt (by have h := HX.out; rw [e, HY.out] at h; injection h with h; injection h with i0 i1 i2 i3 i4; exact i0.symm)
        iterate 11 ((with_reducible apply qval); (case hw => exact rfl); (case h => (intro u hu; obtain ⟨_, _⟩ := own_cells (own_below hu hA); obtain ⟨_, _⟩ := own_cells (own_below hu hB); have := X0 u hu; have := X1 u hu; have := X2 u hu; have := X3 u hu; have := X4 u hu; have := Y0 u hu; have := Y1 u hu; have := Y2 u hu; have := Y3 u hu; have := Y4 u hu; go_simp; exact rfl)); (intro K hK; go_simp; (with_reducible refine hK _ ?_); clear hK K))
        refine wpQuiet_nil ?_
        intro u hu
        replace tt := tt.trans (hu.mono tt.size)
        clear hu
        have HQQ := hid (thEq_no (t := ⟨k, s, v, ve, nu, rs, qs, tg⟩) (t' := ⟨k, s, v, ve, nu, rs', qs', tg⟩) (fun e => hne (by injection e)))
        go_wp2_with fail
        go_ret
        exact ⟨congrArg (fun s => Ending.returned (.bool s)) HQQ.out.symm, tt⟩
      by_cases h_xv : xv = yv
      case neg =>
        have hne : ¬ (rs = rs') := fun e => h_xv (by have h := HX.out; rw [e, HY.out] at h; injection h with h; injection h with i0 i1 i2 i3 i4; exact i1.symm)
        iterate 11 ((with_reducible apply qval); (case hw => exact rfl); (case h => (intro u hu; obtain ⟨_, _⟩ := own_cells (own_below hu hA); obtain ⟨_, _⟩ := own_cells (own_below hu hB); have := X0 u hu; have := X1 u hu; have := X2 u hu; have := X3 u hu; have := X4 u hu; have := Y0 u hu; have := Y1 u hu; have := Y2 u hu; have := Y3 u hu; have := Y4 u hu; go_simp; exact rfl)); (intro K hK; go_simp; (with_reducible refine hK _ ?_); clear hK K))
        refine wpQuiet_nil ?_
        intro u hu
        replace tt := tt.trans (hu.mono tt.size)
        clear hu
        have HQQ := hid (thEq_no (t := ⟨k, s, v, ve, nu, rs, qs, tg⟩) (t' := ⟨k, s, v, ve, nu, rs', qs', tg⟩) (fun e => hne (by injection e)))
        go_wp2_with fail
        go_ret
        exact ⟨congrArg (fun s => Ending.returned (.bool s)) HQQ.out.symm, tt⟩
      by_cases h_xr : xr = yr
      case neg =>
        have hne : ¬ (rs = rs') := fun e => h_xr (by have h := HX.out; rw [e, HY.out] at h; injection h with h; injection h with i0 i1 i2 i3 i4; exact i2.symm)
        iterate 11 ((with_reducible apply qval); (case hw => exact rfl); (case h => (intro u hu; obtain ⟨_, _⟩ := own_cells (own_below hu hA); obtain ⟨_, _⟩ := own_cells (own_below hu hB); have := X0 u hu; have := X1 u hu; have := X2 u hu; have := X3 u hu; have := X4 u hu; have := Y0 u hu; have := Y1 u hu; have := Y2 u hu; have := Y3 u hu; have := Y4 u hu; go_simp; exact rfl)); (intro K hK; go_simp; (with_reducible refine hK _ ?_); clear hK K))
        refine wpQuiet_nil ?_
        intro u hu
        replace tt := tt.trans (hu.mono tt.size)
        clear hu
        have HQQ := hid (thEq_no (t := ⟨k, s, v, ve, nu, rs, qs, tg⟩) (t' := ⟨k, s, v, ve, nu, rs', qs', tg⟩) (fun e => hne (by injection e)))
        go_wp2_with fail
        go_ret
        exact ⟨congrArg (fun s => Ending.returned (.bool s)) HQQ.out.symm, tt⟩
      by_cases h_xw : xw = yw
      case neg =>
        have hne : ¬ (rs = rs') := fun e => h_xw (by have h := HX.out; rw [e, HY.out] at h; injection h with h; injection h with i0 i1 i2 i3 i4; exact i3.symm)
        iterate 11 ((with_reducible apply qval); (case hw => exact rfl); (case h => (intro u hu; obtain ⟨_, _⟩ := own_cells (own_below hu hA); obtain ⟨_, _⟩ := own_cells (own_below hu hB); have := X0 u hu; have := X1 u hu; have := X2 u hu; have := X3 u hu; have := X4 u hu; have := Y0 u hu; have := Y1 u hu; have := Y2 u hu; have := Y3 u hu; have := Y4 u hu; go_simp; exact rfl)); (intro K hK; go_simp; (with_reducible refine hK _ ?_); clear hK K))
        refine wpQuiet_nil ?_
        intro u hu
        replace tt := tt.trans (hu.mono tt.size)
        clear hu
        have HQQ := hid (thEq_no (t := ⟨k, s, v, ve, nu, rs, qs, tg⟩) (t' := ⟨k, s, v, ve, nu, rs', qs', tg⟩) (fun e => hne (by injection e)))
        go_wp2_with fail
        go_ret
        exact ⟨congrArg (fun s => Ending.returned (.bool s)) HQQ.out.symm, tt⟩
      by_cases h_xk : xk = yk
      case neg =>
        have hne : ¬ (rs = rs') := fun e => h_xk (by have h := HX.out; rw [e, HY.out] at h; injection h with h; injection h with i0 i1 i2 i3 i4; exact i4.symm)
        iterate 11 ((with_reducible apply qval); (case hw => exact rfl); (case h => (intro u hu; obtain ⟨_, _⟩ := own_cells (own_below hu hA); obtain ⟨_, _⟩ := own_cells (own_below hu hB); have := X0 u hu; have := X1 u hu; have := X2 u hu; have := X3 u hu; have := X4 u hu; have := Y0 u hu; have := Y1 u hu; have := Y2 u hu; have := Y3 u hu; have := Y4 u hu; go_simp; exact rfl)); (intro K hK; go_simp; (with_reducible refine hK _ ?_); clear hK K))
        refine wpQuiet_nil ?_
        intro u hu
        replace tt := tt.trans (hu.mono tt.size)
        clear hu
        have HQQ := hid (thEq_no (t := ⟨k, s, v, ve, nu, rs, qs, tg⟩) (t' := ⟨k, s, v, ve, nu, rs', qs', tg⟩) (fun e => hne (by injection e)))
        go_wp2_with fail
        go_ret
        exact ⟨congrArg (fun s => Ending.returned (.bool s)) HQQ.out.symm, tt⟩
      iterate 11 ((with_reducible apply qval); (case hw => exact rfl); (case h => (intro u hu; obtain ⟨_, _⟩ := own_cells (own_below hu hA); obtain ⟨_, _⟩ := own_cells (own_below hu hB); have := X0 u hu; have := X1 u hu; have := X2 u hu; have := X3 u hu; have := X4 u hu; have := Y0 u hu; have := Y1 u hu; have := Y2 u hu; have := Y3 u hu; have := Y4 u hu; go_simp; exact rfl)); (intro K hK; go_simp; (with_reducible refine hK _ ?_); clear hK K))
      refine wpQuiet_nil ?_
      intro u hu
      replace tt := tt.trans (hu.mono tt.size)
      replace hA := own_below hu hA
      replace hB := own_below hu hB
      clear hu X0 X1 X2 X3 X4 Y0 Y1 Y2 Y3 Y4
      go_wp2_with fail
      go_roundw
      case rel =>
        refine ⟨q + 1, by go_num, by omega, tt, hA, hB, hid (fun j hj => ?_)⟩
        by_cases hjq : j < q
        · exact HS.out j hjq
        · obtain rfl : j = q := by omega
          rw [HX.out, HY.out, h_xt, h_xv, h_xr, h_xw, h_xk]
      case measure => simp [intOf]; omega
    · obtain ⟨cA, fA⟩ := own_cells hA
      obtain ⟨cB, fB⟩ := own_cells hB
      obtain rfl : q = n := by omega
      have hrs : rs = rs' := ext_upto EN.out.symm EN'.out.symm HS.out
      subst hrs
      clear HS
      go_wp2_with fail
      go_loopw [6] (fun i wr => ∃ p : Nat, i = .int .i64 (p : Int) ∧ p ≤ m ∧ Below w.heap.size w wr ∧ wr.heap[w.heap.size]? = some (.cells #[.int .i64 k, .int .i64 s, .int .i64 v, .int .i64 ve, .int .i64 nu, .slice sa q sc, .slice qa m qc, .int .i64 tg] 36 (0, 0)) ∧ wr.heap[w.heap.size + 1]? = some (.cells #[.int .i64 k, .int .i64 s, .int .i64 v, .int .i64 ve, .int .i64 nu, .slice sa' q sc', .slice qa' m qc', .int .i64 tg] 36 (0, 0)) ∧ Hid (∀ j, j < p → qs[j]? = qs'[j]?)) (fun i _ => ((m : Int) - intOf i).toNat)
      case atStart => exact ⟨0, rfl, by omega, tt, hA, hB, hid (fun j hj => by omega)⟩
      case round =>
        clear tt hA hB cA fA cB fB
        obtain ⟨p, rfl, hpm, tt, hA, hB, HS⟩ := hrel
        by_cases hp : p < m
        · have hwp := wr_small hp hl3
          obtain ⟨b, off, x, rfl, hx, hlt, hc⟩ := HQ.out.at (k := p) (by rw [← EM.out]; exact hp)
          obtain ⟨b', off', y, rfl, hy, hlt', hc'⟩ := HQ'.out.at (k := p) (by rw [← EM'.out]; exact hp)
          have x0 := (tt.cell (p := ⟨b, off + p, none⟩) hlt).trans hc
          have y0 := (tt.cell (p := ⟨b', off' + p, none⟩) hlt').trans hc'
          have HX := hid hx
          have HY := hid hy
          clear hx hy hc hc'
          have X0 := fun u (hu : Below wr.heap.size wr u) => (hu.cell (p := ⟨b, _, none⟩) (Nat.lt_of_lt_of_le hlt tt.size)).trans x0
          have Y0 := fun u (hu : Below wr.heap.size wr u) => (hu.cell (p := ⟨b', _, none⟩) (Nat.lt_of_lt_of_le hlt' tt.size)).trans y0
          clear x0 y0
          obtain ⟨cA, fA⟩ := own_cells hA
          obtain ⟨cB, fB⟩ := own_cells hB
          go_upto_region 11 with fail
          clear cA fA cB fB
          refine wp_region_quiet_below (by kernel_rfl) (by kernel_rfl) ?_
          by_cases h_x : x = y
          case neg =>
            have hb : (x != y) = true := by simpa using h_x
            have hne : ¬ (qs = qs') := fun e => h_x (by have h := HX.out; rw [e, HY.out] at h; injection h with h; exact h.symm)
            iterate 11 ((with_reducible apply qval); (case hw => exact rfl); (case h => (intro u hu; obtain ⟨_, _⟩ := own_cells (own_below hu hA); obtain ⟨_, _⟩ := own_cells (own_below hu hB); have := X0 u hu; have := Y0 u hu; go_simp; exact rfl)); (intro K hK; go_simp; (with_reducible refine hK _ ?_); clear hK K))
            refine wpQuiet_nil ?_
            intro u hu
            replace tt := tt.trans (hu.mono tt.size)
            clear hu
            have HQQ := hid (thEq_no (t := ⟨k, s, v, ve, nu, rs, qs, tg⟩) (t' := ⟨k, s, v, ve, nu, rs, qs', tg⟩) (fun e => hne (by injection e)))
            go_wp2_with fail
            go_ret
            exact ⟨congrArg (fun s => Ending.returned (.bool s)) HQQ.out.symm, tt⟩
          subst h_x
          iterate 11 ((with_reducible apply qval); (case hw => exact rfl); (case h => (intro u hu; obtain ⟨_, _⟩ := own_cells (own_below hu hA); obtain ⟨_, _⟩ := own_cells (own_below hu hB); have := X0 u hu; have := Y0 u hu; go_simp; exact rfl)); (intro K hK; go_simp; (with_reducible refine hK _ ?_); clear hK K))
          refine wpQuiet_nil ?_
          intro u hu
          replace tt := tt.trans (hu.mono tt.size)
          replace hA := own_below hu hA
          replace hB := own_below hu hB
          clear hu X0 Y0
          go_wp2_with fail
          go_roundw
          case rel =>
            refine ⟨p + 1, by go_num, by omega, tt, hA, hB, hid (fun j hj => ?_)⟩
            by_cases hjq : j < p
            · exact HS.out j hjq
            · obtain rfl : j = p := by omega
              rw [HX.out, HY.out]
          case measure => simp [intOf]; omega
        · obtain rfl : p = m := by omega
          have hqs : qs = qs' := ext_upto EM.out.symm EM'.out.symm HS.out
          subst hqs
          have HQQ := hid (thEq_yes (t := ⟨k, s, v, ve, nu, rs, qs, tg⟩) (t' := ⟨k, s, v, ve, nu, rs, qs, tg⟩) rfl)
          obtain ⟨cA, fA⟩ := own_cells hA
          obtain ⟨cB, fB⟩ := own_cells hB
          go_wp2_with fail
          go_ret
          exact ⟨congrArg (fun s => Ending.returned (.bool s)) HQQ.out.symm, tt⟩
set_option maxHeartbeats 4000000 in
set_option maxRecDepth 100000 in
theorem ldTable_any (ta ta' : Option Addr) (c c' : Nat) (ts ts' : List Th) (w : World) (hT : RowT w ta ts) (hT' : RowT w ta' ts') :
    Calls Tryd.prog 17 #[.slice ta ts.length c, .slice ta' ts'.length c'] w fun e w' => e = .returned (.bool (tblEq ts ts')) ∧ Below w.heap.size w w' := by
  have tt : Below w.heap.size w w := Below.refl _ _
  have HT := hid hT
  have HT' := hid hT'
  have hl1 := hT.len
  have hl2 := hT'.len
  obtain ⟨n, en⟩ : ∃ n, n = ts.length := ⟨_, rfl⟩
  obtain ⟨n', en'⟩ : ∃ n', n' = ts'.length := ⟨_, rfl⟩
  rw [← en] at hl1
  rw [← en'] at hl2
  rw [← en, ← en']
  have EN := hid en
  have EN' := hid en'
  clear en en' hT hT'
  by_cases h_n : n = n'
  case neg =>
    have hb : ((n : Int) != (n' : Int)) = true := by simp; omega
    have q := tblEq_no (t := ts) (t' := ts') (fun e => h_n (by rw [EN.out, EN'.out, e]))
    rw [q]
    clear q
    go_enter Tryd.func17, Tryd.ntmps17
    go_wp2_with fail
    go_ret
    exact ⟨rfl, tt⟩
  subst h_n
  go_enter Tryd.func17, Tryd.ntmps17
  go_wp2_with fail
  go_loopw [5] (fun i wr => ∃ q : Nat, i = .int .i64 (q : Int) ∧ q ≤ n ∧ Below w.heap.size w wr ∧ Hid (∀ j, j < q → ts[j]? = ts'[j]?)) (fun i _ => ((n : Int) - intOf i).toNat)
  case atStart => exact ⟨0, rfl, by omega, tt, hid (fun j hj => by omega)⟩
  case round =>
    clear tt
    obtain ⟨q, rfl, hqn, tt, HS⟩ := hrel
    by_cases hq : q < n
    · have hwq := wr_small hq hl1
      obtain ⟨b, off, t, rfl, hx, hlt, h8⟩ := HT.out.at (k := q) (by rw [← EN.out]; exact hq)
      obtain ⟨b', off', t', rfl, hy, hlt', h8'⟩ := HT'.out.at (k := q) (by rw [← EN'.out]; exact hq)
      have HX := hid hx
      have HY := hid hy
      obtain ⟨k, s, v, ve, nu, rs, qs, tg⟩ := t
      obtain ⟨k', s', v', ve', nu', rs', qs', tg'⟩ := t'
      obtain ⟨sa, sc, qa, qc, x0, x1, x2, x3, x4, x5, x6, x7, hR, hQ⟩ := h8.below tt hlt
      obtain ⟨sa', sc', qa', qc', y0, y1, y2, y3, y4, y5, y6, y7, hR', hQ'⟩ := h8'.below tt hlt'
      dsimp only at x0 x1 x2 x3 x4 x5 x6 x7 y0 y1 y2 y3 y4 y5 y6 y7 hR hQ hR' hQ'
      have CL := hid (fun u (hu : Below wr.heap.size wr u) => ldThing_any k s v ve nu tg k' s' v' ve' nu' tg' sa qa sa' qa' rs rs' qs qs' sc qc sc' qc' u (hR.below hu) (hQ.below hu) (hR'.below hu) (hQ'.below hu))
      clear hx hy h8 h8' hR hQ hR' hQ'
      have X0 := fun u (hu : Below wr.heap.size wr u) => (hu.cell (p := ⟨b, _, none⟩) (Nat.lt_of_lt_of_le hlt tt.size)).trans x0
      have Y0 := fun u (hu : Below wr.heap.size wr u) => (hu.cell (p := ⟨b', _, none⟩) (Nat.lt_of_lt_of_le hlt' tt.size)).trans y0
      have X1 := fun u (hu : Below wr.heap.size wr u) => (hu.cell (p := ⟨b, _, none⟩) (Nat.lt_of_lt_of_le hlt tt.size)).trans x1
      have Y1 := fun u (hu : Below wr.heap.size wr u) => (hu.cell (p := ⟨b', _, none⟩) (Nat.lt_of_lt_of_le hlt' tt.size)).trans y1
      have X2 := fun u (hu : Below wr.heap.size wr u) => (hu.cell (p := ⟨b, _, none⟩) (Nat.lt_of_lt_of_le hlt tt.size)).trans x2
      have Y2 := fun u (hu : Below wr.heap.size wr u) => (hu.cell (p := ⟨b', _, none⟩) (Nat.lt_of_lt_of_le hlt' tt.size)).trans y2
      have X3 := fun u (hu : Below wr.heap.size wr u) => (hu.cell (p := ⟨b, _, none⟩) (Nat.lt_of_lt_of_le hlt tt.size)).trans x3
      have Y3 := fun u (hu : Below wr.heap.size wr u) => (hu.cell (p := ⟨b', _, none⟩) (Nat.lt_of_lt_of_le hlt' tt.size)).trans y3
      have X4 := fun u (hu : Below wr.heap.size wr u) => (hu.cell (p := ⟨b, _, none⟩) (Nat.lt_of_lt_of_le hlt tt.size)).trans x4
      have Y4 := fun u (hu : Below wr.heap.size wr u) => (hu.cell (p := ⟨b', _, none⟩) (Nat.lt_of_lt_of_le hlt' tt.size)).trans y4
      have X5 := fun u (hu : Below wr.heap.size wr u) => (hu.cell (p := ⟨b, _, none⟩) (Nat.lt_of_lt_of_le hlt tt.size)).trans x5
      have Y5 := fun u (hu : Below wr.heap.size wr u) => (hu.cell (p := ⟨b', _, none⟩) (Nat.lt_of_lt_of_le hlt' tt.size)).trans y5
      have X6 := fun u (hu : Below wr.heap.size wr u) => (hu.cell (p := ⟨b, _, none⟩) (Nat.lt_of_lt_of_le hlt tt.size)).trans x6
      have Y6 := fun u (hu : Below wr.heap.size wr u) => (hu.cell (p := ⟨b', _, none⟩) (Nat.lt_of_lt_of_le hlt' tt.size)).trans y6
      have X7 := fun u (hu : Below wr.heap.size wr u) => (hu.cell (p := ⟨b, _, none⟩) (Nat.lt_of_lt_of_le hlt tt.size)).trans x7
      have Y7 := fun u (hu : Below wr.heap.size wr u) => (hu.cell (p := ⟨b', _, none⟩) (Nat.lt_of_lt_of_le hlt' tt.size)).trans y7
      clear x0 x1 x2 x3 x4 x5 x6 x7 y0 y1 y2 y3 y4 y5 y6 y7
      generalize rs.length = rn at *
      generalize rs'.length = rn' at *
      generalize qs.length = qn at *
      generalize qs'.length = qn' at *
      cases eB : thEq ⟨k, s, v, ve, nu, rs, qs, tg⟩ ⟨k', s', v', ve', nu', rs', qs', tg'⟩
      all_goals
        rw [eB] at CL
        go_upto_region 6 with fail
        refine wp_region_quiet_below (by kernel_rfl) (by kernel_rfl) ?_
        repeat (first
          | ((with_reducible apply qval); (case hw => exact rfl); (case h => (intro u hu; have := X0 u hu; have := Y0 u hu; have := X1 u hu; have := Y1 u hu; have := X2 u hu; have := Y2 u hu; have := X3 u hu; have := Y3 u hu; have := X4 u hu; have := Y4 u hu; have := X5 u hu; have := Y5 u hu; have := X6 u hu; have := Y6 u hu; have := X7 u hu; have := Y7 u hu; go_simp; exact rfl)); (intro K hK; go_simp; (with_reducible refine hK _ ?_); clear hK K))
          | ((with_reducible apply qcall); (case hw => exact rfl); (case h => (intro u hu; go_simp; exact ⟨rfl, rfl⟩)); (case hc => (intro u hu; with_reducible exact Calls.in_below hu (CL.out _ hu))); (intro K hK; go_simp; (with_reducible refine hK _ ?_); clear hK K)))
        refine wpQuiet_nil ?_
        intro u hu
        replace tt := tt.trans (hu.mono tt.size)
        clear hu X0 Y0 X1 Y1 X2 Y2 X3 Y3 X4 Y4 X5 Y5 X6 Y6 X7 Y7
        go_wp2_with fail
      · have HQQ := hid (tblEq_no (t := ts) (t' := ts') (fun e => thEq_not eB (by have h := HX.out; rw [e, HY.out] at h; exact (Option.some.inj h).symm)))
        go_ret
        exact ⟨congrArg (fun s => Ending.returned (.bool s)) HQQ.out.symm, tt⟩
      · go_roundw
        case rel =>
          refine ⟨q + 1, by go_num, by omega, tt, hid (fun j hj => ?_)⟩
          by_cases hjq : j < q
          · exact HS.out j hjq
          · obtain rfl : j = q := by omega
            rw [HX.out, HY.out, thEq_of eB]
        case measure => simp [intOf]; omega
    · obtain rfl : q = n := by omega
      have HQQ := hid (tblEq_yes (t := ts) (t' := ts') (ext_upto EN.out.symm EN'.out.symm HS.out))
      go_wp2_with fail
      go_ret
      exact ⟨congrArg (fun s => Ending.returned (.bool s)) HQQ.out.symm, tt⟩
end Go.Proofs.YtcgmnpppdoadhaaDoor
