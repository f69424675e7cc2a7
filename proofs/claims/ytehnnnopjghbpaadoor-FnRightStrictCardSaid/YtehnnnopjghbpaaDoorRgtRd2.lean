/- Contracts of the reading of rights, of the program and of the reference: both come to the same right. The program's asks that its package's sentinel lies in its variable. -/
import Derived.Test.YtehnnnopjghbpaaDoorRgtRd
namespace Go.Proofs.YtehnnnopjghbpaaDoor
set_option maxRecDepth 100000
open Go.RowKit
set_option linter.unusedVariables false

set_option maxHeartbeats 2000000 in
theorem rightRead_ok' (b0 : Addr) (s : ByteArray) (t v : Int) (r wr k : Bool) (HP : ∀ w, Sent b0 w → Calls Tryd.prog 18 #[.string s] w fun e w' => e = .returned (.tuple #[.agg #[.int .i64 t, .int .i64 v, .bool r, .bool wr, .bool k], .nilIface]) ∧ Below w.heap.size w w') (w : World) (hS : Sent b0 w) :
    Calls Tryd.prog 8 #[.string s] w fun e w' => e = .returned (.tuple #[.agg #[.int .i64 t, .int .i64 v, .bool r, .bool wr, .bool k], .bool true]) ∧ Below w.heap.size w w' := by
  have HP' := hid HP
  clear HP
  have hR := own_new w (.cells #[.int .i64 0, .int .i64 0, .bool false, .bool false, .bool false] 24)
  have HS := hS.alloc (.cells #[.int .i64 0, .int .i64 0, .bool false, .bool false, .bool false] 24)
  have tt : Below w.heap.size w (w.alloc (.cells #[.int .i64 0, .int .i64 0, .bool false, .bool false, .bool false] 24)) := (Below.refl _ _).alloc (Nat.le_refl _) _
  have hw0 := hS.cell.2
  clear hS
  go_enter Tryd.func8, Tryd.ntmps8
  go_wp2_with fail
  refine (HP'.out _ HS).mono ?_
  rintro er w1 ⟨rfl, hb⟩
  replace HS := HS.below hb
  replace tt : Below w.heap.size w w1 := tt.trans (hb.mono (by simp))
  replace hR := own_below hb hR
  clear hb
  have hA := own_new w1 (.cells #[.int .i64 t, .int .i64 v, .bool r, .bool wr, .bool k] 24)
  obtain ⟨cc_hR, ff_hR⟩ := own_cells hR
  have zz_hR := own_lt hR
  obtain ⟨hg, hgl⟩ := HS.cell
  go_wp2_with fail
  refine (eIs_nil b0 _).mono ?_
  rintro er w2 ⟨rfl, rfl⟩
  go_wp2_with fail
  refine bodyPost_ret (v := .tuple #[.agg #[.int .i64 t, .int .i64 v, .bool r, .bool wr, .bool k], .bool true]) (by simp only [results, Tryd.results8]; go_simp) rfl ⟨rfl, ?_⟩
  have zt := tt.size
  (repeat (first | with_reducible exact tt | (with_reducible refine Below.setCell ?_ ?_ _) | (with_reducible refine Below.alloc ?_ ?_ _) | (with_reducible refine Below.drew ?_) | with_reducible refine Below.drewN' ?_ _)); (all_goals (first | omega | (simp <;> omega)))
theorem rightRead_ok (b0 : Addr) (s : ByteArray) (t v : Int) (r wr k : Bool) (HP : ∀ w, Calls Tryd.prog 18 #[.string s] w fun e w' => e = .returned (.tuple #[.agg #[.int .i64 t, .int .i64 v, .bool r, .bool wr, .bool k], .nilIface]) ∧ Below w.heap.size w w') (w : World) (hS : Sent b0 w) :
    Calls Tryd.prog 8 #[.string s] w fun e w' => e = .returned (.tuple #[.agg #[.int .i64 t, .int .i64 v, .bool r, .bool wr, .bool k], .bool true]) ∧ Below w.heap.size w w' :=
  rightRead_ok' b0 s t v r wr k (fun w _ => HP w) w hS
set_option maxHeartbeats 2000000 in
theorem rightRead_failed (b0 : Addr) (s : ByteArray) (HP : ∀ w, Sent b0 w → Calls Tryd.prog 18 #[.string s] w (Failed b0 w)) (w : World) (hS : Sent b0 w) :
    Calls Tryd.prog 8 #[.string s] w fun e w' => e = .returned (.tuple #[.agg #[.int .i64 0, .int .i64 0, .bool false, .bool false, .bool false], .bool false]) ∧ Below w.heap.size w w' := by
  have HP' := hid HP
  clear HP
  have hR := own_new w (.cells #[.int .i64 0, .int .i64 0, .bool false, .bool false, .bool false] 24)
  have HS := hS.alloc (.cells #[.int .i64 0, .int .i64 0, .bool false, .bool false, .bool false] 24)
  have tt : Below w.heap.size w (w.alloc (.cells #[.int .i64 0, .int .i64 0, .bool false, .bool false, .bool false] 24)) := (Below.refl _ _).alloc (Nat.le_refl _) _
  have hw0 := hS.cell.2
  clear hS
  go_enter Tryd.func8, Tryd.ntmps8
  go_wp2_with fail
  refine (HP'.out _ HS).mono ?_
  rintro er w1 ⟨hb, ev, rfl, he⟩
  replace HS := HS.below hb
  replace tt : Below w.heap.size w w1 := tt.trans (hb.mono (by simp))
  replace hR := own_below hb hR
  clear hb
  have hA := own_new w1 (.cells #[.int .i64 0, .int .i64 0, .bool false, .bool false, .bool false] 24)
  obtain ⟨cc_hR, ff_hR⟩ := own_cells hR
  have zz_hR := own_lt hR
  obtain ⟨hg, hgl⟩ := HS.cell
  rcases he with rfl | ⟨pj, q, n, c, rfl, h0, h1, hn⟩
  · go_wp2_with fail
    refine (eIs_same b0 _).mono ?_
    rintro er w2 ⟨rfl, rfl⟩
    go_wp2_with fail
    refine bodyPost_ret (v := .tuple #[.agg #[.int .i64 0, .int .i64 0, .bool false, .bool false, .bool false], .bool false]) (by simp only [results, Tryd.results8]; go_simp) rfl ⟨rfl, ?_⟩
    have zt := tt.size
    (repeat (first | with_reducible exact tt | (with_reducible refine Below.setCell ?_ ?_ _) | (with_reducible refine Below.alloc ?_ ?_ _) | (with_reducible refine Below.drew ?_) | with_reducible refine Below.drewN' ?_ _)); (all_goals (first | omega | (simp <;> omega)))
  · have hp : pj < w1.heap.size := by
      apply Classical.byContradiction
      intro hb
      rw [World.cell?] at h0
      simp [show w1.heap[pj]? = none from by simp; omega] at h0
    have hq : q < w1.heap.size := by
      apply Classical.byContradiction
      intro hb
      rw [World.cell?] at h1
      simp [show w1.heap[q]? = none from by simp; omega] at h1
    have h0' : ∀ o, (w1.alloc o).cell? ⟨pj, 0, none⟩ = some (.slice (some ⟨q, 0, none⟩) n c) := fun o => by rw [World.cell?_alloc_lt _ _ ⟨pj, 0, none⟩ hp]; exact h0
    have h1' : ∀ o, (w1.alloc o).cell? ⟨q, 0, none⟩ = some (.iface 79 (.pointer (some b0))) := fun o => by rw [World.cell?_alloc_lt _ _ ⟨q, 0, none⟩ hq]; exact h1
    have HJ := fun o => eIs_join pj q n c b0 (w1.alloc o) (h0' o) (h1' o) hn
    have HJ' := hid HJ
    clear HJ h0' h1' h0 h1
    go_wp2_with fail
    refine (HJ'.out _).mono ?_
    rintro er w2 ⟨rfl, rfl⟩
    go_wp2_with fail
    refine bodyPost_ret (v := .tuple #[.agg #[.int .i64 0, .int .i64 0, .bool false, .bool false, .bool false], .bool false]) (by simp only [results, Tryd.results8]; go_simp) rfl ⟨rfl, ?_⟩
    have zt := tt.size
    (repeat (first | with_reducible exact tt | (with_reducible refine Below.setCell ?_ ?_ _) | (with_reducible refine Below.alloc ?_ ?_ _) | (with_reducible refine Below.drew ?_) | with_reducible refine Below.drewN' ?_ _)); (all_goals (first | omega | (simp <;> omega)))
theorem flc_back (d l : UInt8) : (flc (d == l) l == d) = flB d l := by
  unfold flc flB
  cases h : (d == l)
  · simp
    rw [Bool.eq_iff_iff]
    simp
    exact ⟨fun h => h.symm, fun h => h.symm⟩
  · simp at h
    simp [h]
theorem rd_six (a b c d e f : UInt8) : ((txt (rgtTxt ((a.toNat : Int) - 48) ((c.toNat : Int) - 48) (d == 114) (e == 119) (f == 107))).toList == [a, b, c, d, e, f]) = sixOk a b c d e f := by
  rw [txt_toList]
  unfold rgtTxt sixOk
  have g1 := flc_back d 114
  have g2 := flc_back e 119
  have g3 := flc_back f 107
  generalize (d == 114) = x1 at *
  generalize (e == 119) = x2 at *
  generalize (f == 107) = x3 at *
  cases h : rgtOk ((a.toNat : Int) - 48) ((c.toNat : Int) - 48) x1 x2 x3
  · simp
  · obtain ⟨b1, b2, b3, b4⟩ := rgtOk_bd h
    have h1 : ((a.toNat : Int) - 48).toNat = a.toNat - 48 := by omega
    have h2 : ((c.toNat : Int) - 48).toNat = c.toNat - 48 := by omega
    by_cases h0 : (a.toNat : Int) - 48 = 0
    · simp [h0]
    · rw [h1, h2, dec_small _ (by omega), dec_small _ (by omega), dig_byte a (by omega), dig_byte c (by omega)]
      rw [← g1, ← g2, ← g3]
      simp [h0]
      rw [Bool.eq_iff_iff]
      simp
      constructor
      · rintro ⟨q1, q2, q3, q4⟩
        exact ⟨⟨⟨q1.symm, q2⟩, q3⟩, q4⟩
      · rintro ⟨⟨⟨q1, q2⟩, q3⟩, q4⟩
        exact ⟨q1.symm, q2, q3, q4⟩
theorem srightRead_dash (w : World) :
    Calls Tryd.prog 11 #[.string ⟨#[45]⟩] w fun e w' => e = .returned (.tuple #[.agg #[.int .i64 0, .int .i64 0, .bool false, .bool false, .bool false], .bool true]) ∧ Below w.heap.size w w' := by
  have tt : Below w.heap.size w w := Below.refl _ _
  go_enter Tryd.func11, Tryd.ntmps11
  go_wp2_with fail
  refine bodyPost_ret (v := .tuple #[.agg #[.int .i64 0, .int .i64 0, .bool false, .bool false, .bool false], .bool true]) (by simp only [results, Tryd.results11]; go_simp) rfl ⟨rfl, ?_⟩
  have zt := tt.size
  (repeat (first | with_reducible exact tt | (with_reducible refine Below.setCell ?_ ?_ _) | (with_reducible refine Below.alloc ?_ ?_ _) | (with_reducible refine Below.drew ?_) | with_reducible refine Below.drewN' ?_ _)); (all_goals (first | omega | (simp <;> omega)))
theorem srightRead_other (s : ByteArray) (hs : s.size ≤ 9223372036854775807) (h : ((s.size : Int) == 6) = false) (hd : (s.toList == [45]) = false) (w : World) :
    Calls Tryd.prog 11 #[.string s] w fun e w' => e = .returned (.tuple #[.agg #[.int .i64 0, .int .i64 0, .bool false, .bool false, .bool false], .bool false]) ∧ Below w.heap.size w w' := by
  have tt : Below w.heap.size w w := Below.refl _ _
  go_enter Tryd.func11, Tryd.ntmps11
  go_wp2_with fail
  refine bodyPost_ret (v := .tuple #[.agg #[.int .i64 0, .int .i64 0, .bool false, .bool false, .bool false], .bool false]) (by simp only [results, Tryd.results11]; go_simp) rfl ⟨rfl, ?_⟩
  have zt := tt.size
  (repeat (first | with_reducible exact tt | (with_reducible refine Below.setCell ?_ ?_ _) | (with_reducible refine Below.alloc ?_ ?_ _) | (with_reducible refine Below.drew ?_) | with_reducible refine Below.drewN' ?_ _)); (all_goals (first | omega | (simp <;> omega)))
set_option maxHeartbeats 4000000 in
theorem srightRead_six (a b c d e f : UInt8) (w : World) :
    Calls Tryd.prog 11 #[.string ⟨#[a, b, c, d, e, f]⟩] w fun er w' => er = .returned (.tuple #[.agg #[.int .i64 (sxT a b c d e f), .int .i64 (sxV a b c d e f), .bool (sxR a b c d e f), .bool (sxW a b c d e f), .bool (sxK a b c d e f)], .bool (sixOk a b c d e f)]) ∧ Below w.heap.size w w' := by
  have i0 : (⟨#[a, b, c, d, e, f]⟩ : ByteArray)[0]'(by show 0 < 6; decide) = a := rfl
  have i2 : (⟨#[a, b, c, d, e, f]⟩ : ByteArray)[2]'(by show 2 < 6; decide) = c := rfl
  have i3 : (⟨#[a, b, c, d, e, f]⟩ : ByteArray)[3]'(by show 3 < 6; decide) = d := rfl
  have i4 : (⟨#[a, b, c, d, e, f]⟩ : ByteArray)[4]'(by show 4 < 6; decide) = e := rfl
  have i5 : (⟨#[a, b, c, d, e, f]⟩ : ByteArray)[5]'(by show 5 < 6; decide) = f := rfl
  have l1 : (a.toNat : Int) ≤ 255 := by have := a.toNat_lt; omega
  have l2 : (c.toNat : Int) ≤ 255 := by have := c.toNat_lt; omega
  have tt : Below w.heap.size w w := Below.refl _ _
  have hR := own_new w (.cells #[.int .i64 0, .int .i64 0, .bool false, .bool false, .bool false] 24)
  have e1 : ((d.toNat : Int) == 114) = (d == 114) := u8_eq d 114 (by decide)
  have e2 : ((e.toNat : Int) == 119) = (e == 119) := u8_eq e 119 (by decide)
  have e3 : ((f.toNat : Int) == 107) = (f == 107) := u8_eq f 107 (by decide)
  have hq := rd_six a b c d e f
  cases hk : sixOk a b c d e f
  · have p1 : sxT a b c d e f = 0 := by simp [sxT, hk]
    have p2 : sxV a b c d e f = 0 := by simp [sxV, hk]
    have p3 : sxR a b c d e f = false := by simp [sxR, hk]
    have p4 : sxW a b c d e f = false := by simp [sxW, hk]
    have p5 : sxK a b c d e f = false := by simp [sxK, hk]
    rw [p1, p2, p3, p4, p5]
    rw [hk] at hq
    clear p1 p2 p3 p4 p5 hk
    generalize (d == 114) = g1 at *
    generalize (e == 119) = g2 at *
    generalize (f == 107) = g3 at *
    have hA := own_new (w.alloc (.cells #[.int .i64 0, .int .i64 0, .bool false, .bool false, .bool false] 24)) (.cells #[.int .i64 ((a.toNat : Int) - 48), .int .i64 ((c.toNat : Int) - 48), .bool g1, .bool g2, .bool g3] 24)
    simp only [World.size_alloc] at hA
    go_enter Tryd.func11, Tryd.ntmps11
    go_wp2_with fail
    go_region
    go_wp2_with fail
    refine (srightText_any _ _ _ _ _ _).mono ?_
    rintro e w' ⟨rfl, hb⟩
    (try clear cc_hA ff_hA); (try clear zz_hA zy_hA)
    (try clear cc_hR ff_hR); (try clear zz_hR zy_hR)
    have zt := tt.size
    replace tt : Below w.heap.size w w' := by (refine Below.trans ?_ (hb.mono ?_)); (all_goals (repeat (first | with_reducible exact tt | (with_reducible refine Below.setCell ?_ ?_ _) | (with_reducible refine Below.alloc ?_ ?_ _) | with_reducible refine Below.drew ?_)); (all_goals (first | omega | (simp <;> omega))))
    clear zt
    replace hA := own_below hb (by repeat (first | exact hA | apply own_alloc))
    replace hR := own_below hb (by repeat (first | exact hR | apply own_alloc))
    obtain ⟨cc_hA, ff_hA⟩ := own_cells hA; have zz_hA := own_lt hA; have zy_hA := Nat.lt_add_right 1 (own_lt hA)
    obtain ⟨cc_hR, ff_hR⟩ := own_cells hR; have zz_hR := own_lt hR; have zy_hR := Nat.lt_add_right 1 (own_lt hR)
    clear hb
    go_wp2_with fail
    refine bodyPost_ret (v := .tuple #[.agg #[.int .i64 0, .int .i64 0, .bool false, .bool false, .bool false], .bool false]) (by simp only [results, Tryd.results11]; go_simp) rfl ⟨rfl, ?_⟩
    have zt := tt.size
    (repeat (first | with_reducible exact tt | (with_reducible refine Below.setCell ?_ ?_ _) | (with_reducible refine Below.alloc ?_ ?_ _) | (with_reducible refine Below.drew ?_) | with_reducible refine Below.drewN' ?_ _)); (all_goals (first | omega | (simp <;> omega)))
  · have p1 : sxT a b c d e f = (a.toNat : Int) - 48 := by simp [sxT, hk]
    have p2 : sxV a b c d e f = (c.toNat : Int) - 48 := by simp [sxV, hk]
    have p3 : sxR a b c d e f = (d == 114) := by simp [sxR, hk]
    have p4 : sxW a b c d e f = (e == 119) := by simp [sxW, hk]
    have p5 : sxK a b c d e f = (f == 107) := by simp [sxK, hk]
    rw [p1, p2, p3, p4, p5]
    rw [hk] at hq
    clear p1 p2 p3 p4 p5 hk
    generalize (d == 114) = g1 at *
    generalize (e == 119) = g2 at *
    generalize (f == 107) = g3 at *
    have hA := own_new (w.alloc (.cells #[.int .i64 0, .int .i64 0, .bool false, .bool false, .bool false] 24)) (.cells #[.int .i64 ((a.toNat : Int) - 48), .int .i64 ((c.toNat : Int) - 48), .bool g1, .bool g2, .bool g3] 24)
    simp only [World.size_alloc] at hA
    go_enter Tryd.func11, Tryd.ntmps11
    go_wp2_with fail
    go_region
    go_wp2_with fail
    refine (srightText_any _ _ _ _ _ _).mono ?_
    rintro e w' ⟨rfl, hb⟩
    (try clear cc_hA ff_hA); (try clear zz_hA zy_hA)
    (try clear cc_hR ff_hR); (try clear zz_hR zy_hR)
    have zt := tt.size
    replace tt : Below w.heap.size w w' := by (refine Below.trans ?_ (hb.mono ?_)); (all_goals (repeat (first | with_reducible exact tt | (with_reducible refine Below.setCell ?_ ?_ _) | (with_reducible refine Below.alloc ?_ ?_ _) | with_reducible refine Below.drew ?_)); (all_goals (first | omega | (simp <;> omega))))
    clear zt
    replace hA := own_below hb (by repeat (first | exact hA | apply own_alloc))
    replace hR := own_below hb (by repeat (first | exact hR | apply own_alloc))
    obtain ⟨cc_hA, ff_hA⟩ := own_cells hA; have zz_hA := own_lt hA; have zy_hA := Nat.lt_add_right 1 (own_lt hA)
    obtain ⟨cc_hR, ff_hR⟩ := own_cells hR; have zz_hR := own_lt hR; have zy_hR := Nat.lt_add_right 1 (own_lt hR)
    clear hb
    go_wp2_with fail
    refine bodyPost_ret (v := .tuple #[.agg #[.int .i64 ((a.toNat : Int) - 48), .int .i64 ((c.toNat : Int) - 48), .bool g1, .bool g2, .bool g3], .bool true]) (by simp only [results, Tryd.results11]; go_simp) rfl ⟨rfl, ?_⟩
    have zt := tt.size
    (repeat (first | with_reducible exact tt | (with_reducible refine Below.setCell ?_ ?_ _) | (with_reducible refine Below.alloc ?_ ?_ _) | (with_reducible refine Below.drew ?_) | with_reducible refine Below.drewN' ?_ _)); (all_goals (first | omega | (simp <;> omega)))
/-- What the two readings come to. -/
theorem rightReads (b0 : Addr) (s : ByteArray) (hs : s.size ≤ 9223372036854775807) :
    ∃ (t v : Int) (r wr k ok : Bool), (∀ w, Sent b0 w → Calls Tryd.prog 8 #[.string s] w fun e w' => e = .returned (.tuple #[.agg #[.int .i64 t, .int .i64 v, .bool r, .bool wr, .bool k], .bool ok]) ∧ Below w.heap.size w w') ∧
      (∀ w, Calls Tryd.prog 11 #[.string s] w fun e w' => e = .returned (.tuple #[.agg #[.int .i64 t, .int .i64 v, .bool r, .bool wr, .bool k], .bool ok]) ∧ Below w.heap.size w w') ∧
      (ok = true → rgtOk t v r wr k = true ∧ txt (rgtTxt t v r wr k) = s) := by
  by_cases h6 : s.size = 6
  · obtain ⟨a, b, c, d, e, f, rfl⟩ := six_bytes h6
    cases hk : sixOk a b c d e f
    · refine ⟨0, 0, false, false, false, false, rightRead_failed b0 _ ?_, ?_, fun h => by cases h⟩
      · intro w hS
        cases hb : (b == 46)
        · exact parseRight_bad1 b0 a b c d e f hb w hS
        cases k1 : flB d 114 <;> cases k2 : flB e 119 <;> cases k3 : flB f 107
        · exact parseRight_bad_111 b0 a b c d e f hb k1 k2 k3 w hS
        · exact parseRight_bad_110 b0 a b c d e f hb k1 k2 k3 w hS
        · exact parseRight_bad_101 b0 a b c d e f hb k1 k2 k3 w hS
        · exact parseRight_bad_100 b0 a b c d e f hb k1 k2 k3 w hS
        · exact parseRight_bad_011 b0 a b c d e f hb k1 k2 k3 w hS
        · exact parseRight_bad_010 b0 a b c d e f hb k1 k2 k3 w hS
        · exact parseRight_bad_001 b0 a b c d e f hb k1 k2 k3 w hS
        · cases ha : ((a.toNat : Int) - 48 == 0)
          · refine parseRight_not b0 a b c d e f hb k1 k2 k3 ha ?_ w hS
            have hd : decide ((a.toNat : Int) - 48 = 0) = false := by simpa using ha
            simp only [sixOk, hb, k1, k2, k3, hd, Bool.true_and, Bool.not_false] at hk
            exact hk
          · exact parseRight_zero b0 a b c d e f hb k1 k2 k3 ha w hS
      · intro w
        have h := srightRead_six a b c d e f w
        have p1 : sxT a b c d e f = 0 := by simp [sxT, hk]
        have p2 : sxV a b c d e f = 0 := by simp [sxV, hk]
        have p3 : sxR a b c d e f = false := by simp [sxR, hk]
        have p4 : sxW a b c d e f = false := by simp [sxW, hk]
        have p5 : sxK a b c d e f = false := by simp [sxK, hk]
        rw [p1, p2, p3, p4, p5, hk] at h
        exact h
    · have hk' := hk
      simp only [sixOk, Bool.and_eq_true, Bool.not_eq_true'] at hk'
      obtain ⟨⟨⟨⟨⟨q1, q2⟩, q3⟩, q4⟩, q5⟩, q6⟩ := hk'
      have ha : ((a.toNat : Int) - 48 == 0) = false := by simpa using q5
      refine ⟨(a.toNat : Int) - 48, (c.toNat : Int) - 48, d == 114, e == 119, f == 107, true, fun w hS => ?_, fun w => ?_, fun _ => ⟨q6, ?_⟩⟩
      · -- the program's reading asks for the sentinel at its own call
        exact rightRead_ok' b0 _ _ _ _ _ _ (fun w hS => parseRight_yes b0 a b c d e f q1 q2 q3 q4 ha q6 w hS) w hS
      · have h := srightRead_six a b c d e f w
        have p1 : sxT a b c d e f = (a.toNat : Int) - 48 := by simp [sxT, hk]
        have p2 : sxV a b c d e f = (c.toNat : Int) - 48 := by simp [sxV, hk]
        have p3 : sxR a b c d e f = (d == 114) := by simp [sxR, hk]
        have p4 : sxW a b c d e f = (e == 119) := by simp [sxW, hk]
        have p5 : sxK a b c d e f = (f == 107) := by simp [sxK, hk]
        rw [p1, p2, p3, p4, p5, hk] at h
        exact h
      · have h := rd_six a b c d e f
        rw [hk, txt_toList, beq_iff_eq] at h
        rw [h]
        rfl
  · have h : ((s.size : Int) == 6) = false := by simp; omega
    cases hd : (s.toList == [45])
    · exact ⟨0, 0, false, false, false, false, rightRead_failed b0 s (fun w hS => parseRight_other b0 s hs h hd w hS), srightRead_other s hs h hd, fun h => by cases h⟩
    · have hs' : s = ⟨#[45]⟩ := by
        rw [beq_iff_eq, ByteArray.toList_eq] at hd
        obtain ⟨⟨l⟩⟩ := s
        simp at hd
        rw [hd]
      subst hs'
      exact ⟨0, 0, false, false, false, true, rightRead_ok b0 _ 0 0 false false false (parseRight_dash b0), srightRead_dash, fun _ => ⟨rfl, rfl⟩⟩
end Go.Proofs.YtehnnnopjghbpaaDoor
