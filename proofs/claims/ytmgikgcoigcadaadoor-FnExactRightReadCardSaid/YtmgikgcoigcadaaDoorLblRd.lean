/- Contracts of the reading of labels, of the program and of the reference: each computes its plain function of the text's bytes and makes at most new blocks. No condition. -/
import Derived.Test.YtmgikgcoigcadaaDoorTxt
import Derived.Test.YtmgikgcoigcadaaDoorLab
import Derived.BigRegion
import Derived.RegionTactic
namespace Go.Proofs.YtmgikgcoigcadaaDoor
set_option maxRecDepth 100000
open Go.RowKit
set_option linter.unusedVariables false

/-- The two numbers of a text of three bytes, and whether it is that of a label. -/
def rdOk (a b c : UInt8) : Bool := (b == 47) && lblOk ((a.toNat : Int) - 48) ((c.toNat : Int) - 48)
def rdS (a b c : UInt8) : Int := if rdOk a b c then (a.toNat : Int) - 48 else 0
def rdV (a b c : UInt8) : Int := if rdOk a b c then (c.toNat : Int) - 48 else 0
theorem txt_toList (l : List UInt8) : (txt l).toList = l := ByteArray.toList_mk l
theorem dig_byte (a : UInt8) (h0 : 48 ≤ a.toNat) : dig (a.toNat - 48) = a := by
  apply UInt8.toNat_inj.1
  unfold dig
  rw [UInt8.toNat_ofNat']
  have := a.toNat_lt
  omega
theorem rd_txt (a b c : UInt8) : ((txt (lblTxt ((a.toNat : Int) - 48) ((c.toNat : Int) - 48))).toList == [a, b, c]) = rdOk a b c := by
  rw [txt_toList]
  unfold lblTxt rdOk
  cases e : lblOk ((a.toNat : Int) - 48) ((c.toNat : Int) - 48)
  · simp
  · obtain ⟨b1, b2, b3, b4⟩ := lblOk_bd e
    have h1 : ((a.toNat : Int) - 48).toNat = a.toNat - 48 := by omega
    have h2 : ((c.toNat : Int) - 48).toNat = c.toNat - 48 := by omega
    rw [h1, h2, dec_small _ (by omega), dec_small _ (by omega), dig_byte a (by omega), dig_byte c (by omega)]
    simp
    rw [Bool.eq_iff_iff]
    simp
    exact ⟨fun h => h.symm, fun h => h.symm⟩
theorem three_bytes {s : ByteArray} (h : s.size = 3) : ∃ a b c : UInt8, s = ⟨#[a, b, c]⟩ := by
  obtain ⟨⟨l⟩⟩ := s
  match l, h with
  | [a, b, c], _ => exact ⟨a, b, c, rfl⟩
theorem labelRead_other (s : ByteArray) (hs : s.size ≤ 9223372036854775807) (h : ((s.size : Int) == 3) = false) (w : World) :
    Calls Tryd.prog 20 #[.string s] w fun e w' => e = .returned (.tuple #[.agg #[.int .i64 0, .int .i64 0], .bool false]) ∧ Below w.heap.size w w' := by
  have tt : Below w.heap.size w w := Below.refl _ _
  go_enter Tryd.func20, Tryd.ntmps20
  go_wp2_with fail
  refine bodyPost_ret (v := .tuple #[.agg #[.int .i64 0, .int .i64 0], .bool false]) (by simp only [results, Tryd.results20]; go_simp) rfl ⟨rfl, ?_⟩
  exact tt.alloc (Nat.le_refl _) _
theorem labelRead_three (a b c : UInt8) (w : World) :
    Calls Tryd.prog 20 #[.string ⟨#[a, b, c]⟩] w fun e w' => e = .returned (.tuple #[.agg #[.int .i64 (rdS a b c), .int .i64 (rdV a b c)], .bool (rdOk a b c)]) ∧ Below w.heap.size w w' := by
  have i0 : (⟨#[a, b, c]⟩ : ByteArray)[0]'(by show 0 < 3; decide) = a := rfl
  have i1 : (⟨#[a, b, c]⟩ : ByteArray)[1]'(by show 1 < 3; decide) = b := rfl
  have i2 : (⟨#[a, b, c]⟩ : ByteArray)[2]'(by show 2 < 3; decide) = c := rfl
  have tt : Below w.heap.size w w := Below.refl _ _
  have hR := own_new w (.cells #[.int .i64 0, .int .i64 0] 30)
  have hA := own_new (w.alloc (.cells #[.int .i64 0, .int .i64 0] 30)) (.cells #[.int .i64 ((a.toNat : Int) - 48), .int .i64 ((c.toNat : Int) - 48)] 30)
  simp only [World.size_alloc] at hA
  have l1 : (a.toNat : Int) ≤ 255 := by have := a.toNat_lt; omega
  have l2 : (c.toNat : Int) ≤ 255 := by have := c.toNat_lt; omega
  cases e1 : (b == 47)
  · have e2 : ((b.toNat : Int) != 47) = true := by
      simp at e1 ⊢
      intro h
      exact e1 (UInt8.toNat_inj.1 (by simp; omega))
    have q1 : rdOk a b c = false := by simp [rdOk, e1]
    have q2 : rdS a b c = 0 := by simp [rdS, q1]
    have q3 : rdV a b c = 0 := by simp [rdV, q1]
    rw [q1, q2, q3]
    clear q1 q2 q3 e1
    go_enter Tryd.func20, Tryd.ntmps20
    go_wp2_with fail
    refine bodyPost_ret (v := .tuple #[.agg #[.int .i64 0, .int .i64 0], .bool false]) (by simp only [results, Tryd.results20]; go_simp) rfl ⟨rfl, ?_⟩
    exact tt.alloc (Nat.le_refl _) _
  · have e2 : ((b.toNat : Int) != 47) = false := by
      simp at e1 ⊢
      subst e1
      rfl
    cases e3 : lblOk ((a.toNat : Int) - 48) ((c.toNat : Int) - 48)
    · have q1 : rdOk a b c = false := by simp [rdOk, e3]
      have q2 : rdS a b c = 0 := by simp [rdS, q1]
      have q3 : rdV a b c = 0 := by simp [rdV, q1]
      rw [q1, q2, q3]
      clear q1 q2 q3 e1
      go_enter Tryd.func20, Tryd.ntmps20
      go_wp2_with fail
      go_region
      go_wp2_with fail
      refine (labelOk_any _ _ _).mono ?_
      rintro e w' ⟨rfl, hb⟩
      (try clear cc_hA ff_hA); (try clear zz_hA zy_hA)
      (try clear cc_hR ff_hR); (try clear zz_hR zy_hR)
      have zt := tt.size
      replace tt : Below w.heap.size w w' := by (refine Below.trans ?_ (hb.mono ?_)); (all_goals (repeat (first | with_reducible exact tt | (with_reducible refine Below.setCell ?_ ?_ _) | (with_reducible refine Below.alloc ?_ ?_ _) | with_reducible refine Below.drew ?_)); (all_goals (first | omega | (simp <;> omega))))
      clear zt
      replace hA := own_below hb (by repeat (first | exact hA | apply own_alloc))
      replace hR := own_below hb (by repeat (first | exact hR | apply own_alloc))
      obtain ⟨cc_hA, ff_hA⟩ := own_cells hA; have zz_hA := own_lt hA; have zy_hA := Nat.lt_add_right 1 (own_lt hA)
      obtain ⟨cc_hR, ff_hR⟩ := own_cells hR; have zz_hR := own_lt hR; have zy_hR := Nat.lt_add_right 1 (own_lt hR)
      clear hb
      go_wp2_with fail
      refine bodyPost_ret (v := .tuple #[.agg #[.int .i64 0, .int .i64 0], .bool false]) (by simp only [results, Tryd.results20]; go_simp) rfl ⟨rfl, ?_⟩
      have zt := tt.size
      (repeat (first | with_reducible exact tt | (with_reducible refine Below.setCell ?_ ?_ _) | (with_reducible refine Below.alloc ?_ ?_ _) | (with_reducible refine Below.drew ?_) | with_reducible refine Below.drewN' ?_ _)); (all_goals (first | omega | (simp <;> omega)))
    · have q1 : rdOk a b c = true := by simp [rdOk, e1, e3]
      have q2 : rdS a b c = (a.toNat : Int) - 48 := by simp [rdS, q1]
      have q3 : rdV a b c = (c.toNat : Int) - 48 := by simp [rdV, q1]
      rw [q1, q2, q3]
      clear q1 q2 q3 e1
      go_enter Tryd.func20, Tryd.ntmps20
      go_wp2_with fail
      go_region
      go_wp2_with fail
      refine (labelOk_any _ _ _).mono ?_
      rintro e w' ⟨rfl, hb⟩
      (try clear cc_hA ff_hA); (try clear zz_hA zy_hA)
      (try clear cc_hR ff_hR); (try clear zz_hR zy_hR)
      have zt := tt.size
      replace tt : Below w.heap.size w w' := by (refine Below.trans ?_ (hb.mono ?_)); (all_goals (repeat (first | with_reducible exact tt | (with_reducible refine Below.setCell ?_ ?_ _) | (with_reducible refine Below.alloc ?_ ?_ _) | with_reducible refine Below.drew ?_)); (all_goals (first | omega | (simp <;> omega))))
      clear zt
      replace hA := own_below hb (by repeat (first | exact hA | apply own_alloc))
      replace hR := own_below hb (by repeat (first | exact hR | apply own_alloc))
      obtain ⟨cc_hA, ff_hA⟩ := own_cells hA; have zz_hA := own_lt hA; have zy_hA := Nat.lt_add_right 1 (own_lt hA)
      obtain ⟨cc_hR, ff_hR⟩ := own_cells hR; have zz_hR := own_lt hR; have zy_hR := Nat.lt_add_right 1 (own_lt hR)
      clear hb
      go_wp2_with fail
      refine bodyPost_ret (v := .tuple #[.agg #[.int .i64 ((a.toNat : Int) - 48), .int .i64 ((c.toNat : Int) - 48)], .bool true]) (by simp only [results, Tryd.results20]; go_simp) rfl ⟨rfl, ?_⟩
      have zt := tt.size
      (repeat (first | with_reducible exact tt | (with_reducible refine Below.setCell ?_ ?_ _) | (with_reducible refine Below.alloc ?_ ?_ _) | (with_reducible refine Below.drew ?_) | with_reducible refine Below.drewN' ?_ _)); (all_goals (first | omega | (simp <;> omega)))
theorem slabelRead_other (s : ByteArray) (hs : s.size ≤ 9223372036854775807) (h : ((s.size : Int) == 3) = false) (w : World) :
    Calls Tryd.prog 22 #[.string s] w fun e w' => e = .returned (.tuple #[.agg #[.int .i64 0, .int .i64 0], .bool false]) ∧ Below w.heap.size w w' := by
  have tt : Below w.heap.size w w := Below.refl _ _
  go_enter Tryd.func22, Tryd.ntmps22
  go_wp2_with fail
  refine bodyPost_ret (v := .tuple #[.agg #[.int .i64 0, .int .i64 0], .bool false]) (by simp only [results, Tryd.results22]; go_simp) rfl ⟨rfl, ?_⟩
  exact tt.alloc (Nat.le_refl _) _
theorem slabelRead_three (a b c : UInt8) (w : World) :
    Calls Tryd.prog 22 #[.string ⟨#[a, b, c]⟩] w fun e w' => e = .returned (.tuple #[.agg #[.int .i64 (rdS a b c), .int .i64 (rdV a b c)], .bool (rdOk a b c)]) ∧ Below w.heap.size w w' := by
  have i0 : (⟨#[a, b, c]⟩ : ByteArray)[0]'(by show 0 < 3; decide) = a := rfl
  have i2 : (⟨#[a, b, c]⟩ : ByteArray)[2]'(by show 2 < 3; decide) = c := rfl
  have tt : Below w.heap.size w w := Below.refl _ _
  have hR := own_new w (.cells #[.int .i64 0, .int .i64 0] 30)
  have hA := own_new (w.alloc (.cells #[.int .i64 0, .int .i64 0] 30)) (.cells #[.int .i64 ((a.toNat : Int) - 48), .int .i64 ((c.toNat : Int) - 48)] 30)
  simp only [World.size_alloc] at hA
  have l1 : (a.toNat : Int) ≤ 255 := by have := a.toNat_lt; omega
  have l2 : (c.toNat : Int) ≤ 255 := by have := c.toNat_lt; omega
  have hq := rd_txt a b c
  cases q1 : rdOk a b c
  · have q2 : rdS a b c = 0 := by simp [rdS, q1]
    have q3 : rdV a b c = 0 := by simp [rdV, q1]
    rw [q2, q3]
    rw [q1] at hq
    clear q1 q2 q3
    go_enter Tryd.func22, Tryd.ntmps22
    go_wp2_with fail
    go_region
    go_wp2_with fail
    refine (slabelText_any _ _ _).mono ?_
    rintro e w' ⟨rfl, hb⟩
    (try clear cc_hA ff_hA); (try clear zz_hA zy_hA)
    (try clear cc_hR ff_hR); (try clear zz_hR zy_hR)
    have zt := tt.size
    replace tt : Below w.heap.size w w' := by (refine Below.trans ?_ (hb.mono ?_)); (all_goals (repeat (first | with_reducible exact tt | (with_reducible refine Below.setCell ?_ ?_ _) | (with_reducible refine Below.alloc ?_ ?_ _) | with_reducible refine Below.drew ?_)); (all_goals (first | omega | (simp <;> omega))))
    clear zt
    replace hA := own_below hb (by repeat (first | exact hA | apply own_alloc))
    replace hR := own_below hb (by repeat (first | exact hR | apply own_alloc))
    obtain ⟨cc_hA, ff_hA⟩ := own_cells hA; have zz_hA := own_lt hA; have zy_hA := Nat.lt_add_right 1 (own_lt hA)
    obtain ⟨cc_hR, ff_hR⟩ := own_cells hR; have zz_hR := own_lt hR; have zy_hR := Nat.lt_add_right 1 (own_lt hR)
    clear hb
    go_wp2_with fail
    refine bodyPost_ret (v := .tuple #[.agg #[.int .i64 0, .int .i64 0], .bool false]) (by simp only [results, Tryd.results22]; go_simp) rfl ⟨rfl, ?_⟩
    have zt := tt.size
    (repeat (first | with_reducible exact tt | (with_reducible refine Below.setCell ?_ ?_ _) | (with_reducible refine Below.alloc ?_ ?_ _) | (with_reducible refine Below.drew ?_) | with_reducible refine Below.drewN' ?_ _)); (all_goals (first | omega | (simp <;> omega)))
  · have q2 : rdS a b c = (a.toNat : Int) - 48 := by simp [rdS, q1]
    have q3 : rdV a b c = (c.toNat : Int) - 48 := by simp [rdV, q1]
    rw [q2, q3]
    rw [q1] at hq
    clear q1 q2 q3
    go_enter Tryd.func22, Tryd.ntmps22
    go_wp2_with fail
    go_region
    go_wp2_with fail
    refine (slabelText_any _ _ _).mono ?_
    rintro e w' ⟨rfl, hb⟩
    (try clear cc_hA ff_hA); (try clear zz_hA zy_hA)
    (try clear cc_hR ff_hR); (try clear zz_hR zy_hR)
    have zt := tt.size
    replace tt : Below w.heap.size w w' := by (refine Below.trans ?_ (hb.mono ?_)); (all_goals (repeat (first | with_reducible exact tt | (with_reducible refine Below.setCell ?_ ?_ _) | (with_reducible refine Below.alloc ?_ ?_ _) | with_reducible refine Below.drew ?_)); (all_goals (first | omega | (simp <;> omega))))
    clear zt
    replace hA := own_below hb (by repeat (first | exact hA | apply own_alloc))
    replace hR := own_below hb (by repeat (first | exact hR | apply own_alloc))
    obtain ⟨cc_hA, ff_hA⟩ := own_cells hA; have zz_hA := own_lt hA; have zy_hA := Nat.lt_add_right 1 (own_lt hA)
    obtain ⟨cc_hR, ff_hR⟩ := own_cells hR; have zz_hR := own_lt hR; have zy_hR := Nat.lt_add_right 1 (own_lt hR)
    clear hb
    go_wp2_with fail
    refine bodyPost_ret (v := .tuple #[.agg #[.int .i64 ((a.toNat : Int) - 48), .int .i64 ((c.toNat : Int) - 48)], .bool true]) (by simp only [results, Tryd.results22]; go_simp) rfl ⟨rfl, ?_⟩
    have zt := tt.size
    (repeat (first | with_reducible exact tt | (with_reducible refine Below.setCell ?_ ?_ _) | (with_reducible refine Below.alloc ?_ ?_ _) | (with_reducible refine Below.drew ?_) | with_reducible refine Below.drewN' ?_ _)); (all_goals (first | omega | (simp <;> omega)))
end Go.Proofs.YtmgikgcoigcadaaDoor
