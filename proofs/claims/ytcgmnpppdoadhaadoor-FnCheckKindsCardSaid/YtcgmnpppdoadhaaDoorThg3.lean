/- The contract of the reference's check of a thing. No condition but where it lies. -/
import Derived.Test.YtcgmnpppdoadhaaDoorThg2
import Derived.Deep.Light
import Derived.Deep.CutRange
namespace Go.Proofs.YtcgmnpppdoadhaaDoor
set_option maxRecDepth 100000
open Go.RowKit
set_option linter.unusedVariables false
set_option linter.unusedSimpArgs false

def hasSl (k : Int) : Bool := (k == 2 || k == 3)
/-- What is asked of a thing's numbers. -/
def Lin (kind vers num m n tg : Int) : Prop :=
  1 ≤ kind ∧ kind ≤ 5 ∧ (kind = 1 ∨ kind = 2 ∨ kind = 4 → 0 ≤ vers ∧ vers ≤ 5) ∧ (kind = 3 ∨ kind = 5 → vers = 0) ∧ (kind = 1 ∨ kind = 5 → 0 ≤ num ∧ num ≤ 99) ∧ (kind = 3 → -4 ≤ num ∧ num ≤ 99) ∧ (kind = 2 ∨ kind = 4 → num = 0) ∧
  (kind = 2 ∨ kind = 3 → m = 4) ∧ (kind = 1 ∨ kind = 4 ∨ kind = 5 → m = 0) ∧ (kind = 4 → n ≤ 3) ∧ (¬ kind = 4 → n = 0) ∧ (kind = 5 → 1 ≤ tg ∧ tg ≤ 8) ∧ (¬ kind = 5 → tg = 0)
/-- What is asked of the two numbers that hang on the kind. -/
def NV (kind vers num : Int) : Prop := (kind = 3 → -4 ≤ num ∧ num ≤ 99) ∧ (¬ kind = 3 → 0 ≤ num ∧ num ≤ 99) ∧ (kind = 2 ∨ kind = 4 → num = 0) ∧ (kind = 3 ∨ kind = 5 → vers = 0)
instance (kind vers num : Int) : Decidable (NV kind vers num) := by unfold NV; infer_instance
instance (kind vers num m n tg : Int) : Decidable (Lin kind vers num m n tg) := by unfold Lin; infer_instance
theorem inB_iff (n a b : Int) : inB n a b = true ↔ a ≤ n ∧ n ≤ b := by simp [inB]
theorem inB_no (n a b : Int) : inB n a b = false ↔ ¬ (a ≤ n ∧ n ≤ b) := by unfold inB; exact decide_eq_false_iff_not
theorem thOk_iff (kind sec vou vers num tg : Int) (rs : List Rt) (zs : List Int) :
    thOk kind sec vou vers num rs zs tg = true ↔ Lin kind vers num rs.length zs.length tg ∧ lblOk sec vou = true ∧ rs.all Rt.ok = true ∧ zs.all (fun n => inB n 0 99) = true := by
  have e1 : kind = 1 ∨ kind = 2 ∨ kind = 3 ∨ kind = 4 ∨ kind = 5 ∨ ¬ (1 ≤ kind ∧ kind ≤ 5) := by omega
  rcases e1 with rfl | rfl | rfl | rfl | rfl | h
  · cases rs <;> cases zs <;> cases hl : lblOk sec vou <;> simp [thOk, versB, numB, slotsB, queueB, toB, Lin, inB, hl] <;> omega
  · cases zs <;> cases hl : lblOk sec vou <;> cases hr : rs.all Rt.ok <;> simp [thOk, versB, numB, slotsB, queueB, toB, Lin, inB, hl, hr] <;> omega
  · cases zs <;> cases hl : lblOk sec vou <;> cases hr : rs.all Rt.ok <;> simp [thOk, versB, numB, slotsB, queueB, toB, Lin, inB, hl, hr] <;> omega
  · cases rs <;> cases hl : lblOk sec vou <;> cases hz : zs.all (fun n => inB n 0 99) <;> simp [thOk, versB, numB, slotsB, queueB, toB, Lin, hl, hz] <;> (try simp [inB]) <;> omega
  · cases rs <;> cases zs <;> cases hl : lblOk sec vou <;> simp [thOk, versB, numB, slotsB, queueB, toB, Lin, inB, hl] <;> omega
  · constructor
    · intro h1; exfalso; simp [thOk, inB] at h1; omega
    · intro h1; exfalso; have := h1.1; unfold Lin at this; omega
theorem bnd {x : Bool} {P : Prop} [Decidable P] (h : x = true ↔ ¬ P) : x = !decide P := by
  by_cases hp : P
  · simp [hp] at h ⊢; exact h
  · simp [hp] at h ⊢; exact h
theorem NV_of {kind vers num m n tg : Int} (h : Lin kind vers num m n tg) : NV kind vers num := by unfold Lin at h; unfold NV; omega
theorem no_pre {kind sec vou vers num tg : Int} {rs : List Rt} {zs : List Int} {m n : Nat} (hm : m = rs.length) (hn : n = zs.length) (h : Lin kind vers num m n tg → lblOk sec vou = true → False) : false = thOk kind sec vou vers num rs zs tg := by
  symm
  rw [Bool.eq_false_iff]; intro h; obtain ⟨h1, h2, h3, h4⟩ := (thOk_iff _ _ _ _ _ _ _ _).1 h
  subst hm hn
  exact h h1 h2
theorem no_z {kind sec vou vers num tg : Int} {rs : List Rt} {zs : List Int} {k : Nat} {x : Int} (hx : zs[k]? = some x) (hp : inB x 0 99 = false) : false = thOk kind sec vou vers num rs zs tg := by
  symm
  rw [Bool.eq_false_iff]; intro h; obtain ⟨h1, h2, h3, h4⟩ := (thOk_iff _ _ _ _ _ _ _ _).1 h
  rw [all_no (p := fun n => inB n 0 99) hx hp] at h4; cases h4
theorem no_r {kind sec vou vers num tg : Int} {rs : List Rt} {zs : List Int} {k : Nat} {x : Rt} (hx : rs[k]? = some x) (hp : x.ok = false) : false = thOk kind sec vou vers num rs zs tg := by
  symm
  rw [Bool.eq_false_iff]; intro h; obtain ⟨h1, h2, h3, h4⟩ := (thOk_iff _ _ _ _ _ _ _ _).1 h
  rw [all_no hx hp] at h3; cases h3
theorem thOk_fin {kind sec vou vers num tg : Int} {rs : List Rt} {zs : List Int} {m n : Nat} (hm : m = rs.length) (hn : n = zs.length) (hl : lblOk sec vou = true) (hr : Pre Rt.ok rs m) (hz : Pre (fun n => inB n 0 99) zs n) : decide (Lin kind vers num m n tg) = thOk kind sec vou vers num rs zs tg := by
  subst hm hn
  rw [Bool.eq_iff_iff, decide_eq_true_eq, thOk_iff]
  exact ⟨fun h => ⟨h, hl, hr.all, hz.all⟩, fun h => h.1⟩
theorem l3Slots_any (k : Int) (w : World) : Calls Tryd.prog 57 #[.int .i64 k] w fun e w' => e = .returned (.bool (hasSl k)) ∧ Below w.heap.size w w' := by
  go_enter Tryd.func57, Tryd.ntmps57
  go_wp2_with fail
  all_goals
    go_ret
    exact ⟨ret_bool (by simp [hasSl, *]), Below.refl _ _⟩
set_option maxHeartbeats 8000000 in
set_option maxRecDepth 100000 in
theorem sthingOk_any (kind sec vou vers num tg : Int) (sa qa : Option Addr) (rs : List Rt) (sc : Nat) (zs : List Int) (qc : Nat) (w : World) (hs : RowR w sa rs) (hq : RowI w qa zs) :
    Calls Tryd.prog 28 #[.agg #[.int .i64 kind, .int .i64 sec, .int .i64 vou, .int .i64 vers, .int .i64 num, .slice sa rs.length sc, .slice qa zs.length qc, .int .i64 tg]] w fun e w' => e = .returned (.bool (thOk kind sec vou vers num rs zs tg)) ∧ Below w.heap.size w w' := by
  have tt : Below w.heap.size w w := Below.refl _ _
  obtain ⟨m, hm⟩ : ∃ m, m = rs.length := ⟨_, rfl⟩
  obtain ⟨n, hn⟩ : ∃ n, n = zs.length := ⟨_, rfl⟩
  rw [← hm, ← hn]
  have hml : m ≤ 9223372036854775807 := hm ▸ hs.len
  have hA := own_new w (.cells #[.int .i64 kind, .int .i64 sec, .int .i64 vou, .int .i64 vers, .int .i64 num, .slice sa m sc, .slice qa n qc, .int .i64 tg] 36)
  have HS := hid hs
  have HQ := hid hq
  have HM := hid hm
  have HN := hid hn
  clear hs hq hm hn
  go_enter Tryd.func28, Tryd.ntmps28
  go_upto_if 30 with (first | (go_at_call 29; refine (l6In_b _ _ _ _).mono ?_; rintro e w' ⟨rfl, hb⟩; (try clear cc_hA ff_hA); (try clear zz_hA zy_hA); have zt := tt.size; (replace tt : Below w.heap.size w w' := by (refine Below.trans ?_ (hb.mono ?_)); (all_goals (repeat (first | with_reducible exact tt | (with_reducible refine Below.setCell ?_ ?_ _) | (with_reducible refine Below.alloc ?_ ?_ _) | with_reducible refine Below.drew ?_)); (all_goals (first | omega | (simp <;> omega))))); clear zt; replace hA := own_below hb (by repeat (first | exact hA | apply own_alloc)); obtain ⟨cc_hA, ff_hA⟩ := own_cells hA; have zz_hA := own_lt hA; have zy_hA := Nat.lt_add_right 1 (own_lt hA); clear hb) | (go_at_call 55; refine (slabelOk_any _ _ _).mono ?_; rintro e w' ⟨rfl, hb⟩; (try clear cc_hA ff_hA); (try clear zz_hA zy_hA); have zt := tt.size; (replace tt : Below w.heap.size w w' := by (refine Below.trans ?_ (hb.mono ?_)); (all_goals (repeat (first | with_reducible exact tt | (with_reducible refine Below.setCell ?_ ?_ _) | (with_reducible refine Below.alloc ?_ ?_ _) | with_reducible refine Below.drew ?_)); (all_goals (first | omega | (simp <;> omega))))); clear zt; replace hA := own_below hb (by repeat (first | exact hA | apply own_alloc)); obtain ⟨cc_hA, ff_hA⟩ := own_cells hA; have zz_hA := own_lt hA; have zy_hA := Nat.lt_add_right 1 (own_lt hA); clear hb))
  all_goals first
    | (go_ret; refine ⟨ret_bool (no_pre HM.out HN.out ?_), ?_⟩; (intro hl hb; unfold Lin at hl; go_light; (try simp only [inB_iff, inB_no, hasSl, Bool.or_eq_true, Bool.or_eq_false_iff, Bool.not_eq_true, beq_iff_eq, beq_eq_false_iff_ne, bne_iff_ne, bne_eq_false_iff_eq, ne_eq, decide_eq_true_eq, decide_eq_false_iff_not, Bool.true_eq_false, Bool.false_eq_true, Bool.and_eq_true, Bool.and_eq_false_iff, false_iff, true_iff, iff_false, iff_true] at *); first | omega | (simp_all <;> omega)); exact (by (have zt := tt.size); (repeat (first | with_reducible exact tt | (with_reducible refine Below.setCell ?_ ?_ _) | (with_reducible refine Below.alloc ?_ ?_ _) | with_reducible refine Below.drew ?_)); (all_goals (first | omega | (simp <;> omega)))))
    | skip
  have hlb : lblOk sec vou = true := by assumption
  have HL := hid hlb
  have hk5 : inB kind 1 5 = true := by assumption
  have hv5 : inB vers 0 5 = true := by assumption
  go_cut [1, 3] from 0 to 30 (fun p v wc => p = .pointer (some ⟨w.heap.size, 0, none⟩) ∧ (∃ l : Int, v = .int .i64 l ∧ (kind = 3 → l = -4) ∧ (¬ kind = 3 → l = 0)) ∧ Below w.heap.size w wc ∧ wc.heap[w.heap.size]? = some (.cells #[.int .i64 kind, .int .i64 sec, .int .i64 vou, .int .i64 vers, .int .i64 num, .slice sa m sc, .slice qa n qc, .int .i64 tg] 36))
  case first =>
    go_wp2_with fail
    · go_meet
      exact ⟨rfl, ⟨-4, rfl, fun _ => rfl, fun h => by simp_all⟩, tt, hA⟩
    · go_meet
      exact ⟨rfl, ⟨0, rfl, fun h => by simp_all, fun _ => rfl⟩, tt, hA⟩
  case rest =>
  clear tt hA
  (try clear cc_hA ff_hA); (try clear zz_hA zy_hA)
  obtain ⟨rfl, ⟨l, rfl, hl1, hl2⟩, tt, hA⟩ := hcut
  have HL1 := hid hl1
  have HL2 := hid hl2
  clear hl1 hl2
  obtain ⟨cc_hA, ff_hA⟩ := own_cells hA
  go_upto_region 6 with fail
  go_cut [1, 65] from 0 to 64 (fun p v wc => p = .pointer (some ⟨w.heap.size, 0, none⟩) ∧ v = .bool (!decide (NV kind vers num)) ∧ Below w.heap.size w wc ∧ wc.heap[w.heap.size]? = some (.cells #[.int .i64 kind, .int .i64 sec, .int .i64 vou, .int .i64 vers, .int .i64 num, .slice sa m sc, .slice qa n qc, .int .i64 tg] 36))
  case first =>
    go_wp2_with (first | (go_at_call 29; refine (l6In_b _ _ _ _).mono ?_; rintro e w' ⟨rfl, hb⟩; (try clear cc_hA ff_hA); (try clear zz_hA zy_hA); have zt := tt.size; (replace tt : Below w.heap.size w w' := by (refine Below.trans ?_ (hb.mono ?_)); (all_goals (repeat (first | with_reducible exact tt | (with_reducible refine Below.setCell ?_ ?_ _) | (with_reducible refine Below.alloc ?_ ?_ _) | with_reducible refine Below.drew ?_)); (all_goals (first | omega | (simp <;> omega))))); clear zt; replace hA := own_below hb (by repeat (first | exact hA | apply own_alloc)); obtain ⟨cc_hA, ff_hA⟩ := own_cells hA; have zz_hA := own_lt hA; have zy_hA := Nat.lt_add_right 1 (own_lt hA); clear hb))
    all_goals
      go_meet
      refine ⟨rfl, congrArg Value.bool ?_, (by (have zt := tt.size); (repeat (first | with_reducible exact tt | (with_reducible refine Below.setCell ?_ ?_ _) | (with_reducible refine Below.alloc ?_ ?_ _) | with_reducible refine Below.drew ?_)); (all_goals (first | omega | (simp <;> omega)))), hA⟩
      have hl1 := HL1.out
      have hl2 := HL2.out
      clear HL1 HL2
      go_light
      unfold NV
      refine bnd ?_
      simp only [inB_iff, inB_no, Bool.or_eq_true, Bool.and_eq_true, Bool.not_eq_true, Bool.not_eq_true', Bool.not_eq_eq_eq_not, Bool.not_true, beq_iff_eq, bne_iff_ne, ne_eq, decide_eq_true_eq, decide_eq_false_iff_not, Bool.false_eq_true, Bool.and_eq_false_iff, false_iff, true_iff, iff_false, iff_true] at *
      omega
  case rest =>
  clear tt hA
  (try clear cc_hA ff_hA); (try clear zz_hA zy_hA)
  obtain ⟨rfl, rfl, tt, hA⟩ := hcut
  obtain ⟨cc_hA, ff_hA⟩ := own_cells hA
  cases hnv : decide (NV kind vers num)
  · go_wp2_with fail
    go_ret
    refine ⟨ret_bool (no_pre HM.out HN.out ?_), tt⟩
    intro hl hb
    exact absurd (NV_of hl) (of_decide_eq_false hnv)
  have HNV := hid (of_decide_eq_true hnv)
  go_wp2_with fail
  go_loopw [4] (fun i wr => ∃ k : Nat, i = .int .i64 k ∧ k ≤ n ∧ Pre (fun n => inB n 0 99) zs k ∧ Below w.heap.size w wr ∧ wr.heap[w.heap.size]? = some (.cells #[.int .i64 kind, .int .i64 sec, .int .i64 vou, .int .i64 vers, .int .i64 num, .slice sa m sc, .slice qa n qc, .int .i64 tg] 36))
    (fun i _ => n - (intOf i).toNat)
  case atStart => exact ⟨0, rfl, Nat.zero_le _, Pre.zero _ _, (by (have zt := tt.size); (repeat (first | with_reducible exact tt | (with_reducible refine Below.setCell ?_ ?_ _) | (with_reducible refine Below.alloc ?_ ?_ _) | with_reducible refine Below.drew ?_)); (all_goals (first | omega | (simp <;> omega)))), hA⟩
  case round =>
    clear tt hA
    (try clear cc_hA ff_hA); (try clear zz_hA zy_hA)
    obtain ⟨k, rfl, hk, hp, tt, hA⟩ := hrel
    obtain ⟨cc_hA, ff_hA⟩ := own_cells hA
    have HP := hid hp
    clear hp
    by_cases hkn : k < n
    · obtain ⟨b, off, x, rfl, hx, hlt, hc⟩ := HQ.out.at (k := k) (by rw [← HN.out]; exact hkn)
      have HX := hid hx
      have hcx : wr.cell? ⟨b, off + k, none⟩ = some (.int .i64 x) := (tt.cell (p := ⟨b, off + k, none⟩) hlt).trans hc
      clear hc hx
      cases hq : inB x 0 99
      · go_wp2_with (first | (go_at_call 29; refine (l6In_b _ _ _ _).mono ?_; rintro e w' ⟨rfl, hb⟩; (try clear cc_hA ff_hA); (try clear zz_hA zy_hA); have zt := tt.size; (replace tt : Below w.heap.size w w' := by (refine Below.trans ?_ (hb.mono ?_)); (all_goals (repeat (first | with_reducible exact tt | (with_reducible refine Below.setCell ?_ ?_ _) | (with_reducible refine Below.alloc ?_ ?_ _) | with_reducible refine Below.drew ?_)); (all_goals (first | omega | (simp <;> omega))))); clear zt; replace hA := own_below hb (by repeat (first | exact hA | apply own_alloc)); obtain ⟨cc_hA, ff_hA⟩ := own_cells hA; have zz_hA := own_lt hA; have zy_hA := Nat.lt_add_right 1 (own_lt hA); clear hb))
        go_ret
        exact ⟨ret_bool (no_z HX.out hq), tt⟩
      · go_wp2_with (first | (go_at_call 29; refine (l6In_b _ _ _ _).mono ?_; rintro e w' ⟨rfl, hb⟩; (try clear cc_hA ff_hA); (try clear zz_hA zy_hA); have zt := tt.size; (replace tt : Below w.heap.size w w' := by (refine Below.trans ?_ (hb.mono ?_)); (all_goals (repeat (first | with_reducible exact tt | (with_reducible refine Below.setCell ?_ ?_ _) | (with_reducible refine Below.alloc ?_ ?_ _) | with_reducible refine Below.drew ?_)); (all_goals (first | omega | (simp <;> omega))))); clear zt; replace hA := own_below hb (by repeat (first | exact hA | apply own_alloc)); obtain ⟨cc_hA, ff_hA⟩ := own_cells hA; have zz_hA := own_lt hA; have zy_hA := Nat.lt_add_right 1 (own_lt hA); clear hb))
        go_roundw
        case rel => (repeat apply Exists.intro); exact ⟨⟨k + 1, by go_num, by omega, HP.out.succ HX.out hq, tt, hA⟩, rfl⟩
        case measure => simp [intOf]; omega
    · obtain rfl : k = n := by omega
      go_wp2_with fail
      go_loopw [5] (fun i wr => ∃ j : Nat, i = .int .i64 j ∧ j ≤ m ∧ Pre Rt.ok rs j ∧ Below w.heap.size w wr ∧ wr.heap[w.heap.size]? = some (.cells #[.int .i64 kind, .int .i64 sec, .int .i64 vou, .int .i64 vers, .int .i64 num, .slice sa m sc, .slice qa k qc, .int .i64 tg] 36))
        (fun i _ => m - (intOf i).toNat)
      case atStart => exact ⟨0, rfl, Nat.zero_le _, Pre.zero _ _, tt, hA⟩
      case round =>
        clear tt hA
        (try clear cc_hA ff_hA); (try clear zz_hA zy_hA)
        obtain ⟨j, rfl, hj, hp, tt, hA⟩ := hrel
        obtain ⟨cc_hA, ff_hA⟩ := own_cells hA
        have HP2 := hid hp
        clear hp
        by_cases hjm : j < m
        · obtain ⟨b, off, x, rfl, hx, hlt, hc⟩ := HS.out.at (k := j) (by rw [← HM.out]; exact hjm)
          have HX := hid hx
          obtain ⟨q0, q1, q2, q3, q4⟩ := hc.below tt hlt
          clear hc hx
          cases hq : x.ok
          · go_wp2_with (first | (go_at_call 56; refine (srtOk_any _ _).mono ?_; rintro e w' ⟨rfl, hb⟩; (try clear cc_hA ff_hA); (try clear zz_hA zy_hA); have zt := tt.size; (replace tt : Below w.heap.size w w' := by (refine Below.trans ?_ (hb.mono ?_)); (all_goals (repeat (first | with_reducible exact tt | (with_reducible refine Below.setCell ?_ ?_ _) | (with_reducible refine Below.alloc ?_ ?_ _) | with_reducible refine Below.drew ?_)); (all_goals (first | omega | (simp <;> omega))))); clear zt; replace hA := own_below hb (by repeat (first | exact hA | apply own_alloc)); obtain ⟨cc_hA, ff_hA⟩ := own_cells hA; have zz_hA := own_lt hA; have zy_hA := Nat.lt_add_right 1 (own_lt hA); clear hb))
            go_ret
            exact ⟨ret_bool (no_r HX.out hq), tt⟩
          · go_wp2_with (first | (go_at_call 56; refine (srtOk_any _ _).mono ?_; rintro e w' ⟨rfl, hb⟩; (try clear cc_hA ff_hA); (try clear zz_hA zy_hA); have zt := tt.size; (replace tt : Below w.heap.size w w' := by (refine Below.trans ?_ (hb.mono ?_)); (all_goals (repeat (first | with_reducible exact tt | (with_reducible refine Below.setCell ?_ ?_ _) | (with_reducible refine Below.alloc ?_ ?_ _) | with_reducible refine Below.drew ?_)); (all_goals (first | omega | (simp <;> omega))))); clear zt; replace hA := own_below hb (by repeat (first | exact hA | apply own_alloc)); obtain ⟨cc_hA, ff_hA⟩ := own_cells hA; have zz_hA := own_lt hA; have zy_hA := Nat.lt_add_right 1 (own_lt hA); clear hb))
            go_roundw
            case rel => (repeat apply Exists.intro); exact ⟨⟨j + 1, by go_num, by omega, HP2.out.succ HX.out hq, tt, hA⟩, rfl⟩
            case measure => simp [intOf]; omega
        · obtain rfl : j = m := by omega
          go_wp2_with (first | (go_at_call 57; refine (l3Slots_any _ _).mono ?_; rintro e w' ⟨rfl, hb⟩; (try clear cc_hA ff_hA); (try clear zz_hA zy_hA); have zt := tt.size; (replace tt : Below w.heap.size w w' := by (refine Below.trans ?_ (hb.mono ?_)); (all_goals (repeat (first | with_reducible exact tt | (with_reducible refine Below.setCell ?_ ?_ _) | (with_reducible refine Below.alloc ?_ ?_ _) | with_reducible refine Below.drew ?_)); (all_goals (first | omega | (simp <;> omega))))); clear zt; replace hA := own_below hb (by repeat (first | exact hA | apply own_alloc)); obtain ⟨cc_hA, ff_hA⟩ := own_cells hA; have zz_hA := own_lt hA; have zy_hA := Nat.lt_add_right 1 (own_lt hA); clear hb) | (go_at_call 29; refine (l6In_b _ _ _ _).mono ?_; rintro e w' ⟨rfl, hb⟩; (try clear cc_hA ff_hA); (try clear zz_hA zy_hA); have zt := tt.size; (replace tt : Below w.heap.size w w' := by (refine Below.trans ?_ (hb.mono ?_)); (all_goals (repeat (first | with_reducible exact tt | (with_reducible refine Below.setCell ?_ ?_ _) | (with_reducible refine Below.alloc ?_ ?_ _) | with_reducible refine Below.drew ?_)); (all_goals (first | omega | (simp <;> omega))))); clear zt; replace hA := own_below hb (by repeat (first | exact hA | apply own_alloc)); obtain ⟨cc_hA, ff_hA⟩ := own_cells hA; have zz_hA := own_lt hA; have zy_hA := Nat.lt_add_right 1 (own_lt hA); clear hb))
          all_goals
            go_ret
            refine ⟨ret_bool ((Bool.eq_iff_iff.2 ?_).trans (thOk_fin HM.out HN.out HL.out HP2.out HP.out)), tt⟩
            rw [decide_eq_true_eq]
            unfold Lin
            have hnv := HNV.out
            unfold NV at hnv
            clear HNV
            go_light
            (try simp only [inB_iff, inB_no, hasSl, Bool.or_eq_true, Bool.or_eq_false_iff, Bool.not_eq_true, beq_iff_eq, beq_eq_false_iff_ne, bne_iff_ne, bne_eq_false_iff_eq, ne_eq, decide_eq_true_eq, decide_eq_false_iff_not, Bool.true_eq_false, Bool.false_eq_true, Bool.and_eq_true, Bool.and_eq_false_iff, false_iff, true_iff, iff_false, iff_true] at *)
            omega
end Go.Proofs.YtcgmnpppdoadhaaDoor
