/- More contracts of the exact laws' helpers: a list of numbers and a thing copied, compared with a copy, measured. No condition but where they lie and that they are no longer than the laws ask. -/
import Derived.Test.YtcgmnpppdoadhaaDoorTo
namespace Go.Proofs.YtcgmnpppdoadhaaDoor
set_option maxRecDepth 100000
open Go.RowKit
set_option linter.unusedVariables false
set_option linter.unusedSimpArgs false

set_option maxHeartbeats 4000000 in
theorem toIntS_any (a : Option Addr) (cap : Nat) (zs : List Int) (w : World) (hr : RowI w a zs) (hlen : zs.length ≤ 1048576) :
    Calls Tryd.prog 74 #[.slice a zs.length cap] w fun e w' => ∃ B, e = .returned (.slice (some ⟨B, 0, none⟩) zs.length zs.length) ∧ w.heap.size ≤ B ∧ RowI w' (some ⟨B, 0, none⟩) zs ∧ Below w.heap.size w w' := by
  have tt : Below w.heap.size w w := Below.refl _ _
  obtain ⟨i0, hi, hz0, hz1, hz2⟩ := info_parts infoInt
  obtain ⟨n, hn⟩ : ∃ n, n = zs.length := ⟨_, rfl⟩
  have hmk : ∀ u : World, (Instr.makeSlice 34 (.int .i64 (n : Int)) (.int .i64 (n : Int))).run Tryd.prog u = .ok (.slice (some ⟨u.heap.size, 0, none⟩) n n) (u.alloc (.cells (madeCells #[.int .i64 0] n) 3)) := fun u => by
    have h := run_make (P := Tryd.prog) u 34 3 i0 _ Tryd.underlying34 hi hz0 .i64 .i64 (n : Int) (n : Int) (by omega) (by omega) (by rw [hz2]; omega) (by omega)
    rw [hz1] at h
    simpa [Value.cells] using h
  have HR := hid hr
  have HN := hid hn
  rw [← hn]
  rw [← hn] at hlen
  clear hn hr hi hz0 hz1 hz2
  go_enter Tryd.func74, Tryd.ntmps74
  go_wp2_with fail
  go_loopw [4] (fun i wr => ∃ k : Nat, i = .int .i64 k ∧ k ≤ n ∧ Below w.heap.size w wr ∧ ∃ cs : Array Value, wr.heap[w.heap.size]? = some (.cells cs 3 (0, 0)) ∧ cs.size = n ∧ ∀ j x, j < k → zs[j]? = some x → cs[j]? = some (.int .i64 x))
    (fun i _ => n - (intOf i).toNat)
  case atStart => exact ⟨0, rfl, Nat.zero_le _, (by (have zt := tt.size); (repeat (first | with_reducible exact tt | (with_reducible refine Below.setCell ?_ ?_ _) | (with_reducible refine Below.alloc ?_ ?_ _) | with_reducible refine Below.drew ?_)); (all_goals (first | omega | (simp <;> omega)))), _, own_new _ _, size_madeCells _ _, fun j x hj => absurd hj (Nat.not_lt_zero _)⟩
  case round =>
    clear tt
    obtain ⟨k, rfl, hk, tt, cs, hO, hsz, hall⟩ := hrel
    have HS := hid hsz
    have HA := hid hall
    clear hall hsz
    by_cases hkn : k < n
    · obtain ⟨b, off, x, rfl, hx, hlt, hc⟩ := HR.out.at (k := k) (by rw [← HN.out]; exact hkn)
      have HX := hid hx
      have q0 := (tt.cell (p := ⟨b, off + k, none⟩) hlt).trans hc
      clear hc hx
      obtain ⟨v0, hx0⟩ := own_any hO (o := k) (by rw [HS.out]; omega)
      have hf := (own_cells hO).2
      have HO := hid (own_set hO k (.int .i64 x))
      clear hO
      go_wp2_with fail
      go_roundw
      case rel =>
        refine ⟨k + 1, by go_num, by omega, (by (have zt := tt.size); (repeat (first | with_reducible exact tt | (with_reducible refine Below.setCell ?_ ?_ _) | (with_reducible refine Below.alloc ?_ ?_ _) | with_reducible refine Below.drew ?_)); (all_goals (first | omega | (simp <;> omega)))), _, HO.out, (by simpa using HS.out), fun j y hj hy => ?_⟩
        rcases Nat.lt_succ_iff_lt_or_eq.1 hj with hj | rfl
        · rw [Array.getElem?_setIfInBounds, if_neg (by omega)]
          exact HA.out j y hj hy
        · rw [HX.out] at hy
          cases hy
          rw [Array.getElem?_setIfInBounds, if_pos rfl, if_pos (by rw [HS.out]; omega)]
      case measure => simp [intOf]; omega
    · obtain rfl : k = n := by omega
      go_wp2_with fail
      go_ret
      refine ⟨_, rfl, Nat.le_refl _, ?_, tt⟩
      cases hzs : zs with
      | nil => exact .inl rfl
      | cons r0 rs0 =>
        rw [← hzs]
        refine .inr ⟨_, 0, rfl, own_lt hO, by have := HN.out; omega, fun i x hx => ?_⟩
        have hi : i < k := by
          have := (List.getElem?_eq_some_iff.1 hx).1
          have := HN.out
          omega
        rw [Nat.zero_add]
        exact ((own_cells hO).1 _).trans (HA.out i x hi hx)
set_option maxHeartbeats 4000000 in
theorem eqIntS_same (a a' : Option Addr) (cap cap' : Nat) (zs : List Int) (w : World) (hr : RowI w a zs) (hr' : RowI w a' zs) :
    Calls Tryd.prog 77 #[.slice a zs.length cap, .slice a' zs.length cap'] w fun e w' => e = .returned (.bool true) ∧ Below w.heap.size w w' := by
  have tt : Below w.heap.size w w := Below.refl _ _
  obtain ⟨n, hn⟩ : ∃ n, n = zs.length := ⟨_, rfl⟩
  have hml : n ≤ 9223372036854775807 := hn ▸ hr.len
  have HR := hid hr
  have HR' := hid hr'
  have HN := hid hn
  rw [← hn]
  clear hn hr hr'
  go_enter Tryd.func77, Tryd.ntmps77
  go_wp2_with fail
  go_loopw [5] (fun i wr => ∃ k : Nat, i = .int .i64 k ∧ k ≤ n ∧ Below w.heap.size w wr)
    (fun i _ => n - (intOf i).toNat)
  case atStart => exact ⟨0, rfl, Nat.zero_le _, (by (have zt := tt.size); (repeat (first | with_reducible exact tt | (with_reducible refine Below.setCell ?_ ?_ _) | (with_reducible refine Below.alloc ?_ ?_ _) | with_reducible refine Below.drew ?_)); (all_goals (first | omega | (simp <;> omega))))⟩
  case round =>
    clear tt
    obtain ⟨k, rfl, hk, tt⟩ := hrel
    by_cases hkn : k < n
    · obtain ⟨b, off, x, rfl, hx, hlt, hc⟩ := HR.out.at (k := k) (by rw [← HN.out]; exact hkn)
      obtain ⟨b', off', x', rfl, hx', hlt', hc'⟩ := HR'.out.at (k := k) (by rw [← HN.out]; exact hkn)
      obtain rfl : x = x' := by rw [hx] at hx'; exact Option.some.inj hx'
      have q0 := (tt.cell (p := ⟨b, off + k, none⟩) hlt).trans hc
      have q0' := (tt.cell (p := ⟨b', off' + k, none⟩) hlt').trans hc'
      have hs := tt.size
      have hl2 : b < wr.heap.size := by omega
      have hl2' : b' < wr.heap.size := by omega
      clear hc hx hc' hx'
      go_wp2_with fail
      refine wp_region_quiet_below (by kernel_rfl) (by kernel_rfl) ?_
      repeat (first
        | (refine qskip rfl (fun K hK => ?_); go_simp; refine hK _ ?_; clear hK K)
        | (apply qval rfl; (case h => (intro u hu; obtain ⟨cc, ff⟩ := bcell hu; go_simp; exact rfl)); (intro K hK; go_simp; refine hK _ ?_; clear hK K)))
      refine wpQuiet_nil ?_
      intro u hu
      replace tt := tt.trans (hu.mono tt.size)
      clear hu
      go_wp2_with fail
      go_roundw
      case rel => exact ⟨k + 1, by go_num, by omega, tt⟩
      case measure => simp [intOf]; omega
    · obtain rfl : k = n := by omega
      go_wp2_with fail
      go_ret
      exact ⟨rfl, tt⟩
theorem eqRt_any (x : Rt) (w : World) :
    Calls Tryd.prog 102 #[.agg #[.int .i64 x.t, .int .i64 x.v, .bool x.r, .bool x.w, .bool x.k], .agg #[.int .i64 x.t, .int .i64 x.v, .bool x.r, .bool x.w, .bool x.k]] w fun e w' => e = .returned (.bool true) ∧ Below w.heap.size w w' := by
  have t0 : Below w.heap.size w w := Below.refl _ _
  go_enter Tryd.func102, Tryd.ntmps102
  go_wp2
  all_goals
    go_ret
    refine ⟨ret_bool (by simp_all), ?_⟩
    (repeat (first | with_reducible exact t0 | (with_reducible refine Below.setCell ?_ ?_ _) | (with_reducible refine Below.alloc ?_ ?_ _) | with_reducible refine Below.drew ?_)); (all_goals (first | omega | (simp <;> omega)))
set_option maxHeartbeats 4000000 in
theorem eqRightS_same (a a' : Option Addr) (cap cap' : Nat) (rs : List Rt) (w : World) (hr : RowR w a rs) (hr' : RowR w a' rs) :
    Calls Tryd.prog 76 #[.slice a rs.length cap, .slice a' rs.length cap'] w fun e w' => e = .returned (.bool true) ∧ Below w.heap.size w w' := by
  have tt : Below w.heap.size w w := Below.refl _ _
  obtain ⟨n, hn⟩ : ∃ n, n = rs.length := ⟨_, rfl⟩
  have hml : n ≤ 9223372036854775807 := hn ▸ hr.len
  have HR := hid hr
  have HR' := hid hr'
  have HN := hid hn
  rw [← hn]
  clear hn hr hr'
  go_enter Tryd.func76, Tryd.ntmps76
  go_wp2_with fail
  go_loopw [5] (fun i wr => ∃ k : Nat, i = .int .i64 k ∧ k ≤ n ∧ Below w.heap.size w wr)
    (fun i _ => n - (intOf i).toNat)
  case atStart => exact ⟨0, rfl, Nat.zero_le _, (by (have zt := tt.size); (repeat (first | with_reducible exact tt | (with_reducible refine Below.setCell ?_ ?_ _) | (with_reducible refine Below.alloc ?_ ?_ _) | with_reducible refine Below.drew ?_)); (all_goals (first | omega | (simp <;> omega))))⟩
  case round =>
    clear tt
    obtain ⟨k, rfl, hk, tt⟩ := hrel
    by_cases hkn : k < n
    · obtain ⟨b, off, x, rfl, hx, hlt, hc⟩ := HR.out.at (k := k) (by rw [← HN.out]; exact hkn)
      obtain ⟨b', off', x', rfl, hx', hlt', hc'⟩ := HR'.out.at (k := k) (by rw [← HN.out]; exact hkn)
      obtain rfl : x = x' := by rw [hx] at hx'; exact Option.some.inj hx'
      obtain ⟨q0, q1, q2, q3, q4⟩ := hc.below tt hlt
      obtain ⟨p0, p1, p2, p3, p4⟩ := hc'.below tt hlt'
      have hs := tt.size
      have hl2 : b < wr.heap.size := by omega
      have hl2' : b' < wr.heap.size := by omega
      clear hc hx hc' hx'
      go_wp2_with fail
      refine wp_region_quiet_below (by kernel_rfl) (by kernel_rfl) ?_
      repeat (first
        | (refine qskip rfl (fun K hK => ?_); go_simp; refine hK _ ?_; clear hK K)
        | (apply qval rfl; (case h => (intro u hu; obtain ⟨cc, ff⟩ := bcell hu; go_simp; exact rfl)); (intro K hK; go_simp; refine hK _ ?_; clear hK K))
        | (apply qcall rfl; (case h => (intro u hu; go_simp; exact ⟨rfl, rfl⟩)); (case hc => (intro u hu; with_reducible exact Calls.in_below hu (eqRt_any x _))); (intro K hK; go_simp; refine hK _ ?_; clear hK K)))
      refine wpQuiet_nil ?_
      intro u hu
      replace tt := tt.trans (hu.mono tt.size)
      clear hu
      go_wp2_with fail
      go_roundw
      case rel => exact ⟨k + 1, by go_num, by omega, tt⟩
      case measure => simp [intOf]; omega
    · obtain rfl : k = n := by omega
      go_wp2_with fail
      go_ret
      exact ⟨rfl, tt⟩
theorem szRightS_any (a : Option Addr) (len cap : Nat) (left : Int) (hl : len ≤ 9223372036854775807) (h0 : 0 ≤ left) (h1 : left ≤ 1048576) (w : World) :
    Calls Tryd.prog 70 #[.slice a len cap, .int .i64 left] w fun e w' => e = .returned (.int .i64 (if left - len < 0 then -1 else left - len)) ∧ Below w.heap.size w w' := by
  by_cases h : left - len < 0
  · rw [if_pos h]
    go_enter Tryd.func70, Tryd.ntmps70
    go_wp2_with fail
    go_ret
    exact ⟨rfl, Below.refl _ _⟩
  · rw [if_neg h]
    go_enter Tryd.func70, Tryd.ntmps70
    go_wp2_with fail
    go_ret
    exact ⟨rfl, Below.refl _ _⟩
theorem szIntS_any (a : Option Addr) (len cap : Nat) (left : Int) (hl : len ≤ 9223372036854775807) (h0 : 0 ≤ left) (h1 : left ≤ 1048576) (w : World) :
    Calls Tryd.prog 71 #[.slice a len cap, .int .i64 left] w fun e w' => e = .returned (.int .i64 (if left - len < 0 then -1 else left - len)) ∧ Below w.heap.size w w' := by
  by_cases h : left - len < 0
  · rw [if_pos h]
    go_enter Tryd.func71, Tryd.ntmps71
    go_wp2_with fail
    go_ret
    exact ⟨rfl, Below.refl _ _⟩
  · rw [if_neg h]
    go_enter Tryd.func71, Tryd.ntmps71
    go_wp2_with fail
    go_ret
    exact ⟨rfl, Below.refl _ _⟩
/-- What is left of the size. -/
def szOne (left m n : Int) : Int := if left - m < 0 then -1 else if left - m - n < 0 then -1 else left - m - n
theorem szThing_any (kind sec vou vers num tg : Int) (sa qa : Option Addr) (m sc n qc : Nat) (left : Int) (hm : m ≤ 9223372036854775807) (hn : n ≤ 9223372036854775807) (h0 : 0 ≤ left) (h1 : left ≤ 1048576) (w : World) :
    Calls Tryd.prog 36 #[.agg #[.int .i64 kind, .int .i64 sec, .int .i64 vou, .int .i64 vers, .int .i64 num, .slice sa m sc, .slice qa n qc, .int .i64 tg], .int .i64 left] w fun e w' => e = .returned (.int .i64 (szOne left m n)) ∧ Below w.heap.size w w' := by
  have tt : Below w.heap.size w w := Below.refl _ _
  have hA := own_new w (.cells #[.int .i64 kind, .int .i64 sec, .int .i64 vou, .int .i64 vers, .int .i64 num, .slice sa m sc, .slice qa n qc, .int .i64 tg] 69)
  have c1 := szRightS_any sa m sc left hm h0 h1
  by_cases h : left - m < 0
  · have e : szOne left m n = -1 := by simp [szOne, h]
    rw [if_pos h] at c1
    rw [e]
    clear e
    have C1 := hid c1
    clear c1
    go_enter Tryd.func36, Tryd.ntmps36
    go_wp2_with (first | (go_at_call 70; refine (C1.out _).mono ?_; rintro e w' ⟨rfl, hb⟩; (try clear cc_hA ff_hA); (try clear zz_hA zy_hA); have zt := tt.size; (replace tt : Below w.heap.size w w' := by (refine Below.trans ?_ (hb.mono ?_)); (all_goals (repeat (first | with_reducible exact tt | (with_reducible refine Below.setCell ?_ ?_ _) | (with_reducible refine Below.alloc ?_ ?_ _) | with_reducible refine Below.drew ?_)); (all_goals (first | omega | (simp <;> omega))))); clear zt; replace hA := own_below hb (by repeat (first | exact hA | apply own_alloc)); obtain ⟨cc_hA, ff_hA⟩ := own_cells hA; have zz_hA := own_lt hA; have zy_hA := Nat.lt_add_right 1 (own_lt hA); clear hb))
    go_ret
    exact ⟨rfl, tt⟩
  · rw [if_neg h] at c1
    have c2 := szIntS_any qa n qc (left - m) hn (by omega) (by omega)
    have C1 := hid c1
    clear c1
    by_cases h2 : left - m - n < 0
    · have e : szOne left m n = -1 := by simp [szOne, h, h2]
      rw [if_pos h2] at c2
      rw [e]
      clear e
      have C2 := hid c2
      clear c2
      go_enter Tryd.func36, Tryd.ntmps36
      go_wp2_with (first | (go_at_call 70; refine (C1.out _).mono ?_; rintro e w' ⟨rfl, hb⟩; (try clear cc_hA ff_hA); (try clear zz_hA zy_hA); have zt := tt.size; (replace tt : Below w.heap.size w w' := by (refine Below.trans ?_ (hb.mono ?_)); (all_goals (repeat (first | with_reducible exact tt | (with_reducible refine Below.setCell ?_ ?_ _) | (with_reducible refine Below.alloc ?_ ?_ _) | with_reducible refine Below.drew ?_)); (all_goals (first | omega | (simp <;> omega))))); clear zt; replace hA := own_below hb (by repeat (first | exact hA | apply own_alloc)); obtain ⟨cc_hA, ff_hA⟩ := own_cells hA; have zz_hA := own_lt hA; have zy_hA := Nat.lt_add_right 1 (own_lt hA); clear hb) | (go_at_call 71; refine (C2.out _).mono ?_; rintro e w' ⟨rfl, hb⟩; (try clear cc_hA ff_hA); (try clear zz_hA zy_hA); have zt := tt.size; (replace tt : Below w.heap.size w w' := by (refine Below.trans ?_ (hb.mono ?_)); (all_goals (repeat (first | with_reducible exact tt | (with_reducible refine Below.setCell ?_ ?_ _) | (with_reducible refine Below.alloc ?_ ?_ _) | with_reducible refine Below.drew ?_)); (all_goals (first | omega | (simp <;> omega))))); clear zt; replace hA := own_below hb (by repeat (first | exact hA | apply own_alloc)); obtain ⟨cc_hA, ff_hA⟩ := own_cells hA; have zz_hA := own_lt hA; have zy_hA := Nat.lt_add_right 1 (own_lt hA); clear hb))
      go_ret
      exact ⟨rfl, tt⟩
    · have e : szOne left m n = left - m - n := by simp [szOne, h, h2]
      rw [if_neg h2] at c2
      rw [e]
      clear e
      have C2 := hid c2
      clear c2
      go_enter Tryd.func36, Tryd.ntmps36
      go_wp2_with (first | (go_at_call 70; refine (C1.out _).mono ?_; rintro e w' ⟨rfl, hb⟩; (try clear cc_hA ff_hA); (try clear zz_hA zy_hA); have zt := tt.size; (replace tt : Below w.heap.size w w' := by (refine Below.trans ?_ (hb.mono ?_)); (all_goals (repeat (first | with_reducible exact tt | (with_reducible refine Below.setCell ?_ ?_ _) | (with_reducible refine Below.alloc ?_ ?_ _) | with_reducible refine Below.drew ?_)); (all_goals (first | omega | (simp <;> omega))))); clear zt; replace hA := own_below hb (by repeat (first | exact hA | apply own_alloc)); obtain ⟨cc_hA, ff_hA⟩ := own_cells hA; have zz_hA := own_lt hA; have zy_hA := Nat.lt_add_right 1 (own_lt hA); clear hb) | (go_at_call 71; refine (C2.out _).mono ?_; rintro e w' ⟨rfl, hb⟩; (try clear cc_hA ff_hA); (try clear zz_hA zy_hA); have zt := tt.size; (replace tt : Below w.heap.size w w' := by (refine Below.trans ?_ (hb.mono ?_)); (all_goals (repeat (first | with_reducible exact tt | (with_reducible refine Below.setCell ?_ ?_ _) | (with_reducible refine Below.alloc ?_ ?_ _) | with_reducible refine Below.drew ?_)); (all_goals (first | omega | (simp <;> omega))))); clear zt; replace hA := own_below hb (by repeat (first | exact hA | apply own_alloc)); obtain ⟨cc_hA, ff_hA⟩ := own_cells hA; have zz_hA := own_lt hA; have zy_hA := Nat.lt_add_right 1 (own_lt hA); clear hb))
      go_ret
      exact ⟨rfl, tt⟩
theorem eqLabel_self (s v : Int) (w : World) :
    Calls Tryd.prog 75 #[.agg #[.int .i64 s, .int .i64 v], .agg #[.int .i64 s, .int .i64 v]] w fun e w' => e = .returned (.bool true) ∧ Below w.heap.size w w' := by
  have t0 : Below w.heap.size w w := Below.refl _ _
  go_enter Tryd.func75, Tryd.ntmps75
  go_wp2
  all_goals
    go_ret
    refine ⟨ret_bool (by simp_all), ?_⟩
    (repeat (first | with_reducible exact t0 | (with_reducible refine Below.setCell ?_ ?_ _) | (with_reducible refine Below.alloc ?_ ?_ _) | with_reducible refine Below.drew ?_)); (all_goals (first | omega | (simp <;> omega)))
set_option maxHeartbeats 4000000 in
theorem eqThing_same (kind sec vou vers num tg : Int) (sa qa sa' qa' : Option Addr) (rs : List Rt) (zs : List Int) (sc qc sc' qc' : Nat) (w : World) (hs : RowR w sa rs) (hq : RowI w qa zs) (hs' : RowR w sa' rs) (hq' : RowI w qa' zs) :
    Calls Tryd.prog 38 #[.agg #[.int .i64 kind, .int .i64 sec, .int .i64 vou, .int .i64 vers, .int .i64 num, .slice sa rs.length sc, .slice qa zs.length qc, .int .i64 tg], .agg #[.int .i64 kind, .int .i64 sec, .int .i64 vou, .int .i64 vers, .int .i64 num, .slice sa' rs.length sc', .slice qa' zs.length qc', .int .i64 tg]] w fun e w' => e = .returned (.bool true) ∧ Below w.heap.size w w' := by
  have tt : Below w.heap.size w w := Below.refl _ _
  have C1 := hid (fun u (hu : Below w.heap.size w u) => eqRightS_same sa sa' sc sc' rs u (hs.below hu) (hs'.below hu))
  have C2 := hid (fun u (hu : Below w.heap.size w u) => eqIntS_same qa qa' qc qc' zs u (hq.below hu) (hq'.below hu))
  clear hs hq hs' hq'
  generalize rs.length = m at C1
  generalize zs.length = n at C2
  have hA := own_new w (.cells #[.int .i64 kind, .int .i64 sec, .int .i64 vou, .int .i64 vers, .int .i64 num, .slice sa m sc, .slice qa n qc, .int .i64 tg] 36)
  replace hA := own_alloc hA (.cells #[.int .i64 kind, .int .i64 sec, .int .i64 vou, .int .i64 vers, .int .i64 num, .slice sa' m sc', .slice qa' n qc', .int .i64 tg] 36)
  have hB := own_new (w.alloc (.cells #[.int .i64 kind, .int .i64 sec, .int .i64 vou, .int .i64 vers, .int .i64 num, .slice sa m sc, .slice qa n qc, .int .i64 tg] 36)) (.cells #[.int .i64 kind, .int .i64 sec, .int .i64 vou, .int .i64 vers, .int .i64 num, .slice sa' m sc', .slice qa' n qc', .int .i64 tg] 36)
  simp only [World.size_alloc] at hB
  go_enter Tryd.func38, Tryd.ntmps38
  go_wp2_with (first | (go_at_call 75; refine (eqLabel_self _ _ _).mono ?_; rintro e w' ⟨rfl, hb⟩; (try clear cc_hA ff_hA); (try clear zz_hA zy_hA); (try clear cc_hB ff_hB); (try clear zz_hB zy_hB); have zt := tt.size; (replace tt : Below w.heap.size w w' := by (refine Below.trans ?_ (hb.mono ?_)); (all_goals (repeat (first | with_reducible exact tt | (with_reducible refine Below.setCell ?_ ?_ _) | (with_reducible refine Below.alloc ?_ ?_ _) | with_reducible refine Below.drew ?_)); (all_goals (first | omega | (simp <;> omega))))); clear zt; replace hA := own_below hb (by repeat (first | exact hA | apply own_alloc)); replace hB := own_below hb (by repeat (first | exact hB | apply own_alloc)); obtain ⟨cc_hA, ff_hA⟩ := own_cells hA; have zz_hA := own_lt hA; have zy_hA := Nat.lt_add_right 1 (own_lt hA); obtain ⟨cc_hB, ff_hB⟩ := own_cells hB; have zz_hB := own_lt hB; have zy_hB := Nat.lt_add_right 1 (own_lt hB); clear hb) | (go_at_call 76; refine (C1.out _ (by (have zt := tt.size); (repeat (first | with_reducible exact tt | (with_reducible refine Below.setCell ?_ ?_ _) | (with_reducible refine Below.alloc ?_ ?_ _) | with_reducible refine Below.drew ?_)); (all_goals (first | omega | (simp <;> omega))))).mono ?_; rintro e w' ⟨rfl, hb⟩; (try clear cc_hA ff_hA); (try clear zz_hA zy_hA); (try clear cc_hB ff_hB); (try clear zz_hB zy_hB); have zt := tt.size; (replace tt : Below w.heap.size w w' := by (refine Below.trans ?_ (hb.mono ?_)); (all_goals (repeat (first | with_reducible exact tt | (with_reducible refine Below.setCell ?_ ?_ _) | (with_reducible refine Below.alloc ?_ ?_ _) | with_reducible refine Below.drew ?_)); (all_goals (first | omega | (simp <;> omega))))); clear zt; replace hA := own_below hb (by repeat (first | exact hA | apply own_alloc)); replace hB := own_below hb (by repeat (first | exact hB | apply own_alloc)); obtain ⟨cc_hA, ff_hA⟩ := own_cells hA; have zz_hA := own_lt hA; have zy_hA := Nat.lt_add_right 1 (own_lt hA); obtain ⟨cc_hB, ff_hB⟩ := own_cells hB; have zz_hB := own_lt hB; have zy_hB := Nat.lt_add_right 1 (own_lt hB); clear hb) | (go_at_call 77; refine (C2.out _ (by (have zt := tt.size); (repeat (first | with_reducible exact tt | (with_reducible refine Below.setCell ?_ ?_ _) | (with_reducible refine Below.alloc ?_ ?_ _) | with_reducible refine Below.drew ?_)); (all_goals (first | omega | (simp <;> omega))))).mono ?_; rintro e w' ⟨rfl, hb⟩; (try clear cc_hA ff_hA); (try clear zz_hA zy_hA); (try clear cc_hB ff_hB); (try clear zz_hB zy_hB); have zt := tt.size; (replace tt : Below w.heap.size w w' := by (refine Below.trans ?_ (hb.mono ?_)); (all_goals (repeat (first | with_reducible exact tt | (with_reducible refine Below.setCell ?_ ?_ _) | (with_reducible refine Below.alloc ?_ ?_ _) | with_reducible refine Below.drew ?_)); (all_goals (first | omega | (simp <;> omega))))); clear zt; replace hA := own_below hb (by repeat (first | exact hA | apply own_alloc)); replace hB := own_below hb (by repeat (first | exact hB | apply own_alloc)); obtain ⟨cc_hA, ff_hA⟩ := own_cells hA; have zz_hA := own_lt hA; have zy_hA := Nat.lt_add_right 1 (own_lt hA); obtain ⟨cc_hB, ff_hB⟩ := own_cells hB; have zz_hB := own_lt hB; have zy_hB := Nat.lt_add_right 1 (own_lt hB); clear hb))
  go_ret
  exact ⟨rfl, tt⟩
end Go.Proofs.YtcgmnpppdoadhaaDoor
