/- What a thing and a table are in plain data, how they lie in memory, and the contracts of the checks of a thing. No condition but where they lie. -/
import Derived.Test.YtcgmnpppdoadhaaDoorThg
import Derived.LoopTactic
import Derived.IntWalk
namespace Go.Proofs.YtcgmnpppdoadhaaDoor
set_option maxRecDepth 100000
open Go.RowKit
set_option linter.unusedVariables false

theorem RowI.at {w : World} {a : Option Addr} {zs : List Int} (h : RowI w a zs) {k : Nat} (hk : k < zs.length) : ∃ b off x, a = some ⟨b, off, none⟩ ∧ zs[k]? = some x ∧ b < w.heap.size ∧ w.cell? ⟨b, off + k, none⟩ = some (.int .i64 x) := by
  rcases h with rfl | ⟨b, off, h1, h2, hl, h3⟩
  · simp at hk
  · exact ⟨b, off, zs[k], h1, by simp [hk], h2, h3 k _ (by simp [hk])⟩
theorem RowR.at {w : World} {a : Option Addr} {zs : List Rt} (h : RowR w a zs) {k : Nat} (hk : k < zs.length) : ∃ b off x, a = some ⟨b, off, none⟩ ∧ zs[k]? = some x ∧ b < w.heap.size ∧ At5 w b (off + k * 5) x := by
  rcases h with rfl | ⟨b, off, h1, h2, hl, h3⟩
  · simp at hk
  · exact ⟨b, off, zs[k], h1, by simp [hk], h2, h3 k _ (by simp [hk])⟩
/-- The first k of a list are so. -/
def Pre {α : Type} (p : α → Bool) (l : List α) (k : Nat) : Prop := ∀ j x, j < k → l[j]? = some x → p x = true
theorem Pre.zero {α : Type} (p : α → Bool) (l : List α) : Pre p l 0 := fun j x h => absurd h (Nat.not_lt_zero _)
theorem Pre.succ {α : Type} {p : α → Bool} {l : List α} {k : Nat} {x : α} (h : Pre p l k) (hx : l[k]? = some x) (hp : p x = true) : Pre p l (k + 1) := fun j y hj hy => by
  rcases Nat.lt_succ_iff_lt_or_eq.1 hj with hj | rfl
  · exact h j y hj hy
  · rw [hx] at hy; cases hy; exact hp
theorem Pre.all {α : Type} {p : α → Bool} {l : List α} (h : Pre p l l.length) : l.all p = true := by
  rw [List.all_eq_true]
  intro x hx
  obtain ⟨i, hi, rfl⟩ := List.getElem_of_mem hx
  exact h i _ hi (by simp [hi])
theorem all_no {α : Type} {p : α → Bool} {l : List α} {k : Nat} {x : α} (hx : l[k]? = some x) (hp : p x = false) : l.all p = false := by
  rw [Bool.eq_false_iff]
  intro h
  have := List.all_eq_true.1 h x (List.mem_of_getElem? hx)
  rw [hp] at this; cases this
set_option maxHeartbeats 4000000 in
theorem queueOk_four (sec vou vers num tg : Int) (sa qa : Option Addr) (sl sc : Nat) (zs : List Int) (qc : Nat) (w : World) (hr : RowI w qa zs) (hl : zs.length ≤ 3) :
    Calls Tryd.prog 90 #[.agg #[.int .i64 4, .int .i64 sec, .int .i64 vou, .int .i64 vers, .int .i64 num, .slice sa sl sc, .slice qa zs.length qc, .int .i64 tg]] w fun e w' => e = .returned (.bool (zs.all (fun n => inB n 0 99))) ∧ Below w.heap.size w w' := by
  have HR := hid hr
  clear hr
  obtain ⟨n, hn⟩ : ∃ n, n = zs.length := ⟨_, rfl⟩
  have HN := hid hn
  rw [← hn]
  rw [← hn] at hl
  clear hn
  go_enter Tryd.func90, Tryd.ntmps90
  go_wp2_with fail
  go_loopw [19] (fun i wr => ∃ k : Nat, i = .int .i64 k ∧ k ≤ n ∧ Pre (fun n => inB n 0 99) zs k ∧ Below w.heap.size w wr)
    (fun i _ => n - (intOf i).toNat)
  case atStart => exact ⟨0, rfl, Nat.zero_le _, Pre.zero _ _, (Below.refl _ _).alloc (Nat.le_refl _) _⟩
  case round =>
    obtain ⟨k, rfl, hk, hp, hb⟩ := hrel
    have HP := hid hp
    clear hp
    by_cases hkn : k < n
    · obtain ⟨b, off, x, rfl, hx, hlt, hc⟩ := HR.out.at (k := k) (by rw [← HN.out]; exact hkn)
      have HX := hid hx
      have hcx : wr.cell? ⟨b, off + k, none⟩ = some (.int .i64 x) := (hb.cell (p := ⟨b, off + k, none⟩) hlt).trans hc
      clear hc hx
      cases hq : inB x 0 99
      · go_wp2_with (go_at_call 60; refine (inRange_any _ _ _ _).mono ?_; rintro e w' ⟨rfl, rfl⟩)
        go_ret
        exact ⟨ret_bool (all_no HX.out hq).symm, hb⟩
      · go_wp2_with (go_at_call 60; refine (inRange_any _ _ _ _).mono ?_; rintro e w' ⟨rfl, rfl⟩)
        go_roundw
        case rel => exact ⟨k + 1, by go_num, by omega, HP.out.succ HX.out hq, hb⟩
        case measure => simp [intOf]; omega
    · obtain rfl : k = n := by omega
      have ha : zs.all (fun n => inB n 0 99) = true := Pre.all (HN.out ▸ HP.out)
      have HA := hid ha
      clear ha
      go_wp2_with fail
      go_ret
      exact ⟨ret_bool HA.out.symm, hb⟩
theorem inRange_b (n lo hi : Int) (w : World) :
    Calls Tryd.prog 60 #[.int .i64 n, .int .i64 lo, .int .i64 hi] w fun e w' => e = .returned (.bool (inB n lo hi)) ∧ Below w.heap.size w w' :=
  (inRange_any n lo hi w).mono fun e w' ⟨he, hw⟩ => ⟨he, hw ▸ Below.refl _ _⟩
theorem l6In_b (n lo hi : Int) (w : World) :
    Calls Tryd.prog 29 #[.int .i64 n, .int .i64 lo, .int .i64 hi] w fun e w' => e = .returned (.bool (inB n lo hi)) ∧ Below w.heap.size w w' :=
  (l6In_any n lo hi w).mono fun e w' ⟨he, hw⟩ => ⟨he, hw ▸ Below.refl _ _⟩
theorem queueOk_any (kind sec vou vers num tg : Int) (sa qa : Option Addr) (sl sc : Nat) (zs : List Int) (qc : Nat) (w : World) (hr : RowI w qa zs) :
    Calls Tryd.prog 90 #[.agg #[.int .i64 kind, .int .i64 sec, .int .i64 vou, .int .i64 vers, .int .i64 num, .slice sa sl sc, .slice qa zs.length qc, .int .i64 tg]] w fun e w' => e = .returned (.bool (queueB kind zs)) ∧ Below w.heap.size w w' := by
  by_cases hk : kind = 4
  · subst hk
    by_cases hl : zs.length ≤ 3
    · have e : queueB 4 zs = zs.all (fun n => inB n 0 99) := by simp [queueB, hl]
      rw [e]
      exact queueOk_four sec vou vers num tg sa qa sl sc zs qc w hr hl
    · have e : queueB 4 zs = false := by simp [queueB, hl]
      rw [e]
      clear e hr
      generalize zs.length = n at hl
      go_enter Tryd.func90, Tryd.ntmps90
      go_wp2_with fail
      go_ret
      exact ⟨rfl, (Below.refl _ _).alloc (Nat.le_refl _) _⟩
  · have e : queueB kind zs = ((zs.length : Int) == 0) := by simp only [queueB, hk, if_false]; rw [Bool.eq_iff_iff]; simp
    rw [e]
    clear e
    generalize zs.length = n
    have h1 : (kind != 4) = true := by simp; omega
    clear hk hr
    go_enter Tryd.func90, Tryd.ntmps90
    go_wp2_with fail
    go_ret
    exact ⟨rfl, (Below.refl _ _).alloc (Nat.le_refl _) _⟩
set_option maxHeartbeats 4000000 in
theorem thingOk_any (kind sec vou vers num tg : Int) (sa qa : Option Addr) (rs : List Rt) (sc : Nat) (zs : List Int) (qc : Nat) (w : World) (hs : RowR w sa rs) (hq : RowI w qa zs) :
    Calls Tryd.prog 61 #[.agg #[.int .i64 kind, .int .i64 sec, .int .i64 vou, .int .i64 vers, .int .i64 num, .slice sa rs.length sc, .slice qa zs.length qc, .int .i64 tg]] w fun e w' => e = .returned (.bool (thOk kind sec vou vers num rs zs tg)) ∧ Below w.heap.size w w' := by
  have tt : Below w.heap.size w w := Below.refl _ _
  have hA := own_new w (.cells #[.int .i64 kind, .int .i64 sec, .int .i64 vou, .int .i64 vers, .int .i64 num, .slice sa rs.length sc, .slice qa zs.length qc, .int .i64 tg] 36)
  have HS := hid (fun u (hu : Below w.heap.size w u) => slotsOk_any kind sec vou vers num tg sa qa rs sc zs.length qc u (hs.below hu))
  have HQ := hid (fun u (hu : Below w.heap.size w u) => queueOk_any kind sec vou vers num tg sa qa rs.length sc zs qc u (hq.below hu))
  clear hs hq
  generalize rs.length = m at hA HS HQ
  generalize zs.length = n at hA HS HQ
  unfold thOk
  go_enter Tryd.func61, Tryd.ntmps61
  go_wp2_with (first | (go_at_call 60; refine (inRange_b _ _ _ _).mono ?_; rintro e w' ⟨rfl, hb⟩; (try clear cc_hA ff_hA); (try clear zz_hA zy_hA); have zt := tt.size; (replace tt : Below w.heap.size w w' := by (refine Below.trans ?_ (hb.mono ?_)); (all_goals (repeat (first | with_reducible exact tt | (with_reducible refine Below.setCell ?_ ?_ _) | (with_reducible refine Below.alloc ?_ ?_ _) | with_reducible refine Below.drew ?_)); (all_goals (first | omega | (simp <;> omega))))); clear zt; replace hA := own_below hb (by repeat (first | exact hA | apply own_alloc)); obtain ⟨cc_hA, ff_hA⟩ := own_cells hA; have zz_hA := own_lt hA; have zy_hA := Nat.lt_add_right 1 (own_lt hA); clear hb) | (go_at_call 86; refine (labelOk_any _ _ _).mono ?_; rintro e w' ⟨rfl, hb⟩; (try clear cc_hA ff_hA); (try clear zz_hA zy_hA); have zt := tt.size; (replace tt : Below w.heap.size w w' := by (refine Below.trans ?_ (hb.mono ?_)); (all_goals (repeat (first | with_reducible exact tt | (with_reducible refine Below.setCell ?_ ?_ _) | (with_reducible refine Below.alloc ?_ ?_ _) | with_reducible refine Below.drew ?_)); (all_goals (first | omega | (simp <;> omega))))); clear zt; replace hA := own_below hb (by repeat (first | exact hA | apply own_alloc)); obtain ⟨cc_hA, ff_hA⟩ := own_cells hA; have zz_hA := own_lt hA; have zy_hA := Nat.lt_add_right 1 (own_lt hA); clear hb) | (go_at_call 87; refine (versOk_any _ _ _ _ _ _ _ _ _ _ _ _ _).mono ?_; rintro e w' ⟨rfl, hb⟩; (try clear cc_hA ff_hA); (try clear zz_hA zy_hA); have zt := tt.size; (replace tt : Below w.heap.size w w' := by (refine Below.trans ?_ (hb.mono ?_)); (all_goals (repeat (first | with_reducible exact tt | (with_reducible refine Below.setCell ?_ ?_ _) | (with_reducible refine Below.alloc ?_ ?_ _) | with_reducible refine Below.drew ?_)); (all_goals (first | omega | (simp <;> omega))))); clear zt; replace hA := own_below hb (by repeat (first | exact hA | apply own_alloc)); obtain ⟨cc_hA, ff_hA⟩ := own_cells hA; have zz_hA := own_lt hA; have zy_hA := Nat.lt_add_right 1 (own_lt hA); clear hb) | (go_at_call 88; refine (numOk_any _ _ _ _ _ _ _ _ _ _ _ _ _).mono ?_; rintro e w' ⟨rfl, hb⟩; (try clear cc_hA ff_hA); (try clear zz_hA zy_hA); have zt := tt.size; (replace tt : Below w.heap.size w w' := by (refine Below.trans ?_ (hb.mono ?_)); (all_goals (repeat (first | with_reducible exact tt | (with_reducible refine Below.setCell ?_ ?_ _) | (with_reducible refine Below.alloc ?_ ?_ _) | with_reducible refine Below.drew ?_)); (all_goals (first | omega | (simp <;> omega))))); clear zt; replace hA := own_below hb (by repeat (first | exact hA | apply own_alloc)); obtain ⟨cc_hA, ff_hA⟩ := own_cells hA; have zz_hA := own_lt hA; have zy_hA := Nat.lt_add_right 1 (own_lt hA); clear hb) | (go_at_call 89; refine (HS.out _ (by (have zt := tt.size); (repeat (first | with_reducible exact tt | (with_reducible refine Below.setCell ?_ ?_ _) | (with_reducible refine Below.alloc ?_ ?_ _) | with_reducible refine Below.drew ?_)); (all_goals (first | omega | (simp <;> omega))))).mono ?_; rintro e w' ⟨rfl, hb⟩; (try clear cc_hA ff_hA); (try clear zz_hA zy_hA); have zt := tt.size; (replace tt : Below w.heap.size w w' := by (refine Below.trans ?_ (hb.mono ?_)); (all_goals (repeat (first | with_reducible exact tt | (with_reducible refine Below.setCell ?_ ?_ _) | (with_reducible refine Below.alloc ?_ ?_ _) | with_reducible refine Below.drew ?_)); (all_goals (first | omega | (simp <;> omega))))); clear zt; replace hA := own_below hb (by repeat (first | exact hA | apply own_alloc)); obtain ⟨cc_hA, ff_hA⟩ := own_cells hA; have zz_hA := own_lt hA; have zy_hA := Nat.lt_add_right 1 (own_lt hA); clear hb) | (go_at_call 90; refine (HQ.out _ (by (have zt := tt.size); (repeat (first | with_reducible exact tt | (with_reducible refine Below.setCell ?_ ?_ _) | (with_reducible refine Below.alloc ?_ ?_ _) | with_reducible refine Below.drew ?_)); (all_goals (first | omega | (simp <;> omega))))).mono ?_; rintro e w' ⟨rfl, hb⟩; (try clear cc_hA ff_hA); (try clear zz_hA zy_hA); have zt := tt.size; (replace tt : Below w.heap.size w w' := by (refine Below.trans ?_ (hb.mono ?_)); (all_goals (repeat (first | with_reducible exact tt | (with_reducible refine Below.setCell ?_ ?_ _) | (with_reducible refine Below.alloc ?_ ?_ _) | with_reducible refine Below.drew ?_)); (all_goals (first | omega | (simp <;> omega))))); clear zt; replace hA := own_below hb (by repeat (first | exact hA | apply own_alloc)); obtain ⟨cc_hA, ff_hA⟩ := own_cells hA; have zz_hA := own_lt hA; have zy_hA := Nat.lt_add_right 1 (own_lt hA); clear hb) | (go_at_call 91; refine (targetOk_any _ _ _ _ _ _ _ _ _ _ _ _ _).mono ?_; rintro e w' ⟨rfl, hb⟩; (try clear cc_hA ff_hA); (try clear zz_hA zy_hA); have zt := tt.size; (replace tt : Below w.heap.size w w' := by (refine Below.trans ?_ (hb.mono ?_)); (all_goals (repeat (first | with_reducible exact tt | (with_reducible refine Below.setCell ?_ ?_ _) | (with_reducible refine Below.alloc ?_ ?_ _) | with_reducible refine Below.drew ?_)); (all_goals (first | omega | (simp <;> omega))))); clear zt; replace hA := own_below hb (by repeat (first | exact hA | apply own_alloc)); obtain ⟨cc_hA, ff_hA⟩ := own_cells hA; have zz_hA := own_lt hA; have zy_hA := Nat.lt_add_right 1 (own_lt hA); clear hb))
  all_goals
    go_ret
    refine ⟨ret_bool (by simp [*]), ?_⟩
    have zt := tt.size
    (repeat (first | with_reducible exact tt | (with_reducible refine Below.setCell ?_ ?_ _) | (with_reducible refine Below.alloc ?_ ?_ _) | (with_reducible refine Below.drew ?_) | with_reducible refine Below.drewN' ?_ _)); (all_goals (first | omega | (simp <;> omega)))
end Go.Proofs.YtcgmnpppdoadhaaDoor
