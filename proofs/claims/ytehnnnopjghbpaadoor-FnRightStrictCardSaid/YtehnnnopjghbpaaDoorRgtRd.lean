/- Contracts of the reading of rights, of the program and of the reference. The program's asks that its package's sentinel lies in its variable. -/
import Derived.Test.YtehnnnopjghbpaaDoorErr
import Derived.Test.YtehnnnopjghbpaaDoorRgtTxt3
import Derived.Test.YtehnnnopjghbpaaDoorLblRd
import Derived.BigRegion
import Derived.RegionTactic
namespace Go.Proofs.YtehnnnopjghbpaaDoor
set_option maxRecDepth 100000
open Go.RowKit
set_option linter.unusedVariables false

/-- Whether a byte is a flag's letter, or a dash. -/
def flB (c l : UInt8) : Bool := c == l || c == 45
/-- Whether six bytes are the text of a right. -/
def sixOk (a b c d e f : UInt8) : Bool := (b == 46) && flB d 114 && flB e 119 && flB f 107 && !decide ((a.toNat : Int) - 48 = 0) && rgtOk ((a.toNat : Int) - 48) ((c.toNat : Int) - 48) (d == 114) (e == 119) (f == 107)
def sxT (a b c d e f : UInt8) : Int := if sixOk a b c d e f then (a.toNat : Int) - 48 else 0
def sxV (a b c d e f : UInt8) : Int := if sixOk a b c d e f then (c.toNat : Int) - 48 else 0
def sxR (a b c d e f : UInt8) : Bool := sixOk a b c d e f && (d == 114)
def sxW (a b c d e f : UInt8) : Bool := sixOk a b c d e f && (e == 119)
def sxK (a b c d e f : UInt8) : Bool := sixOk a b c d e f && (f == 107)
theorem six_bytes {s : ByteArray} (h : s.size = 6) : ∃ a b c d e f : UInt8, s = ⟨#[a, b, c, d, e, f]⟩ := by
  obtain ⟨⟨l⟩⟩ := s
  match l, h with
  | [a, b, c, d, e, f], _ => exact ⟨a, b, c, d, e, f, rfl⟩
theorem u8_eq (c : UInt8) (n : Nat) (hn : n < 256) : ((c.toNat : Int) == n) = (c == UInt8.ofNat n) := by
  rw [Bool.eq_iff_iff]
  simp
  constructor
  · intro h
    apply UInt8.toNat_inj.1
    simp
    omega
  · rintro rfl
    simp
    omega
/-- The sentinel's variable. -/
def Sent (b0 : Addr) (w : World) : Prop := ∃ g, g < w.heap.size ∧ g = 0 ∧ w.cell? ⟨g, 0, none⟩ = some (.iface 79 (.pointer (some b0)))
theorem Sent.below {b0 : Addr} {w w' : World} (h : Sent b0 w) (hb : Below w.heap.size w w') : Sent b0 w' := by
  obtain ⟨g, h1, h2, h3⟩ := h
  exact ⟨g, Nat.lt_of_lt_of_le h1 hb.size, h2, by rw [(bcell hb).1 _ _ h1]; exact h3⟩
theorem Sent.alloc {b0 : Addr} {w : World} (h : Sent b0 w) (o : Obj) : Sent b0 (w.alloc o) := h.below ((Below.refl _ _).alloc (Nat.le_refl _) _)
theorem Sent.drew {b0 : Addr} {w : World} (h : Sent b0 w) : Sent b0 w.drew := h.below (Below.refl _ _).drew
theorem Sent.cell {b0 : Addr} {w : World} (h : Sent b0 w) : w.cell? ⟨0, 0, none⟩ = some (.iface 79 (.pointer (some b0))) ∧ 0 < w.heap.size := by
  obtain ⟨g, h1, rfl, h3⟩ := h
  exact ⟨h3, h1⟩
/-- A flag's error: none, or the sentinel. -/
def flE (k : Bool) (b0 : Addr) : Value := if k then .nilIface else (.iface 79 (.pointer (some b0)))
theorem flE_true (b0 : Addr) : flE true b0 = .nilIface := rfl
theorem flE_false (b0 : Addr) : flE false b0 = (.iface 79 (.pointer (some b0))) := rfl
theorem parseFlag_any (b0 : Addr) (c : UInt8) (l : UInt8) (n : Int) (hn : n = l.toNat) (w : World) (hS : Sent b0 w) :
    Calls Tryd.prog 23 #[.int .u8 c.toNat, .int .u8 n] w fun e w' => e = .returned (.tuple #[.bool (c == l), flE (flB c l) b0]) ∧ Below w.heap.size w w' := by
  subst hn
  have tt : Below w.heap.size w w := Below.refl _ _
  obtain ⟨hg, hgl⟩ := hS.cell
  have e0 : ((c.toNat : Int) == (l.toNat : Int)) = (c == l) := by
    have := u8_eq c l.toNat l.toNat_lt
    simpa using this
  have e1 : ((c.toNat : Int) == 45) = (c == 45) := u8_eq c 45 (by decide)
  cases h0 : (c == l)
  · cases h1 : (c == 45)
    · have hf : flE (flB c l) b0 = (.iface 79 (.pointer (some b0))) := by simp [flE, flB, h0, h1]
      rw [hf]
      rw [h0] at e0
      rw [h1] at e1
      go_enter Tryd.func23, Tryd.ntmps23
      go_wp2
      go_region
      go_wp2
      go_ret2
      refine ⟨rfl, ?_⟩
      have zt := tt.size
      (repeat (first | with_reducible exact tt | (with_reducible refine Below.setCell ?_ ?_ _) | (with_reducible refine Below.alloc ?_ ?_ _) | (with_reducible refine Below.drew ?_) | with_reducible refine Below.drewN' ?_ _)); (all_goals (first | omega | (simp <;> omega)))
    · have hf : flE (flB c l) b0 = .nilIface := by simp [flE, flB, h0, h1]
      rw [hf]
      rw [h0] at e0
      rw [h1] at e1
      go_enter Tryd.func23, Tryd.ntmps23
      go_wp2
      go_ret2
      exact ⟨rfl, tt⟩
  · have hf : flE (flB c l) b0 = .nilIface := by simp [flE, flB, h0]
    rw [hf]
    rw [h0] at e0
    go_enter Tryd.func23, Tryd.ntmps23
    go_wp2
    go_ret2
    exact ⟨rfl, tt⟩
/-- What a failed reading of a right leaves. -/
def Failed (b0 : Addr) (w : World) (e : Ending) (w' : World) : Prop :=
  Below w.heap.size w w' ∧ ∃ er : Value, e = .returned (.tuple #[.agg #[.int .i64 0, .int .i64 0, .bool false, .bool false, .bool false], er]) ∧ (er = (.iface 79 (.pointer (some b0))) ∨ ∃ pj q n c : Nat, er = .iface 66 (.pointer (some ⟨pj, 0, none⟩)) ∧ w'.cell? ⟨pj, 0, none⟩ = some (.slice (some ⟨q, 0, none⟩) n c) ∧ w'.cell? ⟨q, 0, none⟩ = some (.iface 79 (.pointer (some b0))) ∧ 0 < n)
theorem parseRight_dash (b0 : Addr) (w : World) :
    Calls Tryd.prog 18 #[.string ⟨#[45]⟩] w fun e w' => e = .returned (.tuple #[.agg #[.int .i64 0, .int .i64 0, .bool false, .bool false, .bool false], .nilIface]) ∧ Below w.heap.size w w' := by
  have tt : Below w.heap.size w w := Below.refl _ _
  go_enter Tryd.func18, Tryd.ntmps18
  go_wp2_with fail
  refine bodyPost_ret (v := .tuple #[.agg #[.int .i64 0, .int .i64 0, .bool false, .bool false, .bool false], .nilIface]) (by simp only [results, Tryd.results18]; go_simp) rfl ⟨rfl, ?_⟩
  have zt := tt.size
  (repeat (first | with_reducible exact tt | (with_reducible refine Below.setCell ?_ ?_ _) | (with_reducible refine Below.alloc ?_ ?_ _) | (with_reducible refine Below.drew ?_) | with_reducible refine Below.drewN' ?_ _)); (all_goals (first | omega | (simp <;> omega)))
theorem parseRight_other (b0 : Addr) (s : ByteArray) (hs : s.size ≤ 9223372036854775807) (h : ((s.size : Int) == 6) = false) (hd : (s.toList == [45]) = false) (w : World) (hS : Sent b0 w) :
    Calls Tryd.prog 18 #[.string s] w (Failed b0 w) := by
  have tt : Below w.heap.size w w := Below.refl _ _
  obtain ⟨hg, hgl⟩ := hS.cell
  go_enter Tryd.func18, Tryd.ntmps18
  go_wp2_with fail
  go_region
  go_wp2_with fail
  refine bodyPost_ret (v := .tuple #[.agg #[.int .i64 0, .int .i64 0, .bool false, .bool false, .bool false], (.iface 79 (.pointer (some b0)))]) (by simp only [results, Tryd.results18]; go_simp) rfl (show Failed b0 w _ _ from ⟨?_, _, rfl, .inl rfl⟩)
  have zt := tt.size
  (repeat (first | with_reducible exact tt | (with_reducible refine Below.setCell ?_ ?_ _) | (with_reducible refine Below.alloc ?_ ?_ _) | (with_reducible refine Below.drew ?_) | with_reducible refine Below.drewN' ?_ _)); (all_goals (first | omega | (simp <;> omega)))
set_option maxHeartbeats 4000000 in
theorem parseRight_bad1 (b0 : Addr) (a b c d e f : UInt8) (hb46 : (b == 46) = false) (w : World) (hS : Sent b0 w) :
    Calls Tryd.prog 18 #[.string ⟨#[a, b, c, d, e, f]⟩] w (Failed b0 w) := by
  have tt : Below w.heap.size w w := Below.refl _ _
  have i0 : (⟨#[a, b, c, d, e, f]⟩ : ByteArray)[0]'(by show 0 < 6; decide) = a := rfl
  have i1 : (⟨#[a, b, c, d, e, f]⟩ : ByteArray)[1]'(by show 1 < 6; decide) = b := rfl
  have i2 : (⟨#[a, b, c, d, e, f]⟩ : ByteArray)[2]'(by show 2 < 6; decide) = c := rfl
  have i3 : (⟨#[a, b, c, d, e, f]⟩ : ByteArray)[3]'(by show 3 < 6; decide) = d := rfl
  have i4 : (⟨#[a, b, c, d, e, f]⟩ : ByteArray)[4]'(by show 4 < 6; decide) = e := rfl
  have i5 : (⟨#[a, b, c, d, e, f]⟩ : ByteArray)[5]'(by show 5 < 6; decide) = f := rfl
  have l1 : (a.toNat : Int) ≤ 255 := by have := a.toNat_lt; omega
  have l2 : (c.toNat : Int) ≤ 255 := by have := c.toNat_lt; omega
  have hR := own_new w (.cells #[.int .i64 0, .int .i64 0, .bool false, .bool false, .bool false] 24)
  have e2 : ((b.toNat : Int) != 46) = true := by
    have := u8_eq b 46 (by decide)
    have e : ((b.toNat : Int) == 46) = false := by rw [← hb46]; exact this
    simp only [bne, e, Bool.not_false]
  obtain ⟨hg, hgl⟩ := hS.cell
  go_enter Tryd.func18, Tryd.ntmps18
  go_wp2_with fail
  go_region
  go_wp2_with fail
  refine bodyPost_ret (v := .tuple #[.agg #[.int .i64 0, .int .i64 0, .bool false, .bool false, .bool false], (.iface 79 (.pointer (some b0)))]) (by simp only [results, Tryd.results18]; go_simp) rfl (show Failed b0 w _ _ from ⟨?_, _, rfl, .inl rfl⟩)
  have zt := tt.size
  (repeat (first | with_reducible exact tt | (with_reducible refine Below.setCell ?_ ?_ _) | (with_reducible refine Below.alloc ?_ ?_ _) | (with_reducible refine Below.drew ?_) | with_reducible refine Below.drewN' ?_ _)); (all_goals (first | omega | (simp <;> omega)))
set_option maxHeartbeats 4000000 in
theorem parseRight_bad_001 (b0 : Addr) (a b c d e f : UInt8) (hb46 : (b == 46) = true) (k1 : flB d 114 = true) (k2 : flB e 119 = true) (k3 : flB f 107 = false) (w : World) (hS : Sent b0 w) :
    Calls Tryd.prog 18 #[.string ⟨#[a, b, c, d, e, f]⟩] w (Failed b0 w) := by
  have i0 : (⟨#[a, b, c, d, e, f]⟩ : ByteArray)[0]'(by show 0 < 6; decide) = a := rfl
  have i1 : (⟨#[a, b, c, d, e, f]⟩ : ByteArray)[1]'(by show 1 < 6; decide) = b := rfl
  have i2 : (⟨#[a, b, c, d, e, f]⟩ : ByteArray)[2]'(by show 2 < 6; decide) = c := rfl
  have i3 : (⟨#[a, b, c, d, e, f]⟩ : ByteArray)[3]'(by show 3 < 6; decide) = d := rfl
  have i4 : (⟨#[a, b, c, d, e, f]⟩ : ByteArray)[4]'(by show 4 < 6; decide) = e := rfl
  have i5 : (⟨#[a, b, c, d, e, f]⟩ : ByteArray)[5]'(by show 5 < 6; decide) = f := rfl
  have l1 : (a.toNat : Int) ≤ 255 := by have := a.toNat_lt; omega
  have l2 : (c.toNat : Int) ≤ 255 := by have := c.toNat_lt; omega
  have hR := own_new w (.cells #[.int .i64 0, .int .i64 0, .bool false, .bool false, .bool false] 24)
  have e2 : ((b.toNat : Int) != 46) = false := by
    have := u8_eq b 46 (by decide)
    have e : ((b.toNat : Int) == 46) = true := by rw [← hb46]; exact this
    simp only [bne, e, Bool.not_true]
  have H1 := fun w h => parseFlag_any b0 d 114 114 rfl w h
  have H2 := fun w h => parseFlag_any b0 e 119 119 rfl w h
  have H3 := fun w h => parseFlag_any b0 f 107 107 rfl w h
  rw [k1, flE_true] at H1
  rw [k2, flE_true] at H2
  rw [k3, flE_false] at H3
  generalize (d == 114) = g1 at H1
  generalize (e == 119) = g2 at H2
  generalize (f == 107) = g3 at H3
  have H1' := hid H1
  have H2' := hid H2
  have H3' := hid H3
  clear H1 H2 H3 k1 k2 k3 hb46
  go_enter Tryd.func18, Tryd.ntmps18
  go_wp2_with fail
  have HS : Sent b0 (w.alloc (.cells #[.int .i64 0, .int .i64 0, .bool false, .bool false, .bool false] 24)) := hS.alloc _
  have tt : Below w.heap.size w (w.alloc (.cells #[.int .i64 0, .int .i64 0, .bool false, .bool false, .bool false] 24)) := (Below.refl _ _).alloc (Nat.le_refl _) _
  have hw0 := hS.cell.2
  clear hS
  refine (H1'.out _ HS).mono ?_
  rintro er w' ⟨rfl, hb⟩
  replace HS := HS.below hb
  replace tt : Below w.heap.size w w' := tt.trans (hb.mono tt.size)
  replace hR := own_below hb hR
  (try clear cc_hR ff_hR); (try clear zz_hR)
  obtain ⟨cc_hR, ff_hR⟩ := own_cells hR
  have zz_hR := own_lt hR
  clear hb
  go_wp2_with fail
  refine (H2'.out _ HS).mono ?_
  rintro er w' ⟨rfl, hb⟩
  replace HS := HS.below hb
  replace tt : Below w.heap.size w w' := tt.trans (hb.mono tt.size)
  replace hR := own_below hb hR
  (try clear cc_hR ff_hR); (try clear zz_hR)
  obtain ⟨cc_hR, ff_hR⟩ := own_cells hR
  have zz_hR := own_lt hR
  clear hb
  go_wp2_with fail
  refine (H3'.out _ HS).mono ?_
  rintro er w' ⟨rfl, hb⟩
  replace HS := HS.below hb
  replace tt : Below w.heap.size w w' := tt.trans (hb.mono tt.size)
  replace hR := own_below hb hR
  (try clear cc_hR ff_hR); (try clear zz_hR)
  obtain ⟨cc_hR, ff_hR⟩ := own_cells hR
  have zz_hR := own_lt hR
  clear hb
  go_wp2_with fail
  have hQ := own_cells (own_new w' (.cells #[Value.nilIface, Value.nilIface, (.iface 79 (.pointer (some b0)))] 42))
  refine (eJoin_001 w'.heap.size 3 b0 _ (by simp) (hQ.1 0) (hQ.1 1) (hQ.1 2)).mono ?_
  rintro er w2 ⟨pj, q, n, cc, rfl, hb, j1, j2, j3, j4, j5⟩
  have zt := tt.size
  replace tt : Below w.heap.size w w2 := (tt.alloc zt _).trans (hb.mono (by simp; omega))
  replace hR := own_below hb (own_alloc hR _)
  clear cc_hR ff_hR zz_hR hQ
  obtain ⟨cc_hR, ff_hR⟩ := own_cells hR
  have zz_hR := own_lt hR
  simp only [World.size_alloc] at j4 j5
  go_wp2_with fail
  have n1 : ¬ pj = w.heap.size := by have := hR; omega
  have n2 : ¬ q = w.heap.size := by have := hR; omega
  have n3 : ¬ w.heap.size = pj := by omega
  have n4 : ¬ w.heap.size = q := by omega
  refine bodyPost_ret (v := .tuple #[.agg #[.int .i64 0, .int .i64 0, .bool false, .bool false, .bool false], .iface 66 (.pointer (some ⟨pj, 0, none⟩))]) (by simp only [results, Tryd.results18]; go_simp) rfl (show Failed b0 w _ _ from ⟨?_, _, rfl, .inr ⟨pj, q, n, cc, rfl, ?_, ?_, j3⟩⟩)
  · have zt := tt.size
    (repeat (first | with_reducible exact tt | (with_reducible refine Below.setCell ?_ ?_ _) | (with_reducible refine Below.alloc ?_ ?_ _) | (with_reducible refine Below.drew ?_) | with_reducible refine Below.drewN' ?_ _)); (all_goals (first | omega | (simp <;> omega)))
  · go_simp
  · go_simp
set_option maxHeartbeats 4000000 in
theorem parseRight_bad_010 (b0 : Addr) (a b c d e f : UInt8) (hb46 : (b == 46) = true) (k1 : flB d 114 = true) (k2 : flB e 119 = false) (k3 : flB f 107 = true) (w : World) (hS : Sent b0 w) :
    Calls Tryd.prog 18 #[.string ⟨#[a, b, c, d, e, f]⟩] w (Failed b0 w) := by
  have i0 : (⟨#[a, b, c, d, e, f]⟩ : ByteArray)[0]'(by show 0 < 6; decide) = a := rfl
  have i1 : (⟨#[a, b, c, d, e, f]⟩ : ByteArray)[1]'(by show 1 < 6; decide) = b := rfl
  have i2 : (⟨#[a, b, c, d, e, f]⟩ : ByteArray)[2]'(by show 2 < 6; decide) = c := rfl
  have i3 : (⟨#[a, b, c, d, e, f]⟩ : ByteArray)[3]'(by show 3 < 6; decide) = d := rfl
  have i4 : (⟨#[a, b, c, d, e, f]⟩ : ByteArray)[4]'(by show 4 < 6; decide) = e := rfl
  have i5 : (⟨#[a, b, c, d, e, f]⟩ : ByteArray)[5]'(by show 5 < 6; decide) = f := rfl
  have l1 : (a.toNat : Int) ≤ 255 := by have := a.toNat_lt; omega
  have l2 : (c.toNat : Int) ≤ 255 := by have := c.toNat_lt; omega
  have hR := own_new w (.cells #[.int .i64 0, .int .i64 0, .bool false, .bool false, .bool false] 24)
  have e2 : ((b.toNat : Int) != 46) = false := by
    have := u8_eq b 46 (by decide)
    have e : ((b.toNat : Int) == 46) = true := by rw [← hb46]; exact this
    simp only [bne, e, Bool.not_true]
  have H1 := fun w h => parseFlag_any b0 d 114 114 rfl w h
  have H2 := fun w h => parseFlag_any b0 e 119 119 rfl w h
  have H3 := fun w h => parseFlag_any b0 f 107 107 rfl w h
  rw [k1, flE_true] at H1
  rw [k2, flE_false] at H2
  rw [k3, flE_true] at H3
  generalize (d == 114) = g1 at H1
  generalize (e == 119) = g2 at H2
  generalize (f == 107) = g3 at H3
  have H1' := hid H1
  have H2' := hid H2
  have H3' := hid H3
  clear H1 H2 H3 k1 k2 k3 hb46
  go_enter Tryd.func18, Tryd.ntmps18
  go_wp2_with fail
  have HS : Sent b0 (w.alloc (.cells #[.int .i64 0, .int .i64 0, .bool false, .bool false, .bool false] 24)) := hS.alloc _
  have tt : Below w.heap.size w (w.alloc (.cells #[.int .i64 0, .int .i64 0, .bool false, .bool false, .bool false] 24)) := (Below.refl _ _).alloc (Nat.le_refl _) _
  have hw0 := hS.cell.2
  clear hS
  refine (H1'.out _ HS).mono ?_
  rintro er w' ⟨rfl, hb⟩
  replace HS := HS.below hb
  replace tt : Below w.heap.size w w' := tt.trans (hb.mono tt.size)
  replace hR := own_below hb hR
  (try clear cc_hR ff_hR); (try clear zz_hR)
  obtain ⟨cc_hR, ff_hR⟩ := own_cells hR
  have zz_hR := own_lt hR
  clear hb
  go_wp2_with fail
  refine (H2'.out _ HS).mono ?_
  rintro er w' ⟨rfl, hb⟩
  replace HS := HS.below hb
  replace tt : Below w.heap.size w w' := tt.trans (hb.mono tt.size)
  replace hR := own_below hb hR
  (try clear cc_hR ff_hR); (try clear zz_hR)
  obtain ⟨cc_hR, ff_hR⟩ := own_cells hR
  have zz_hR := own_lt hR
  clear hb
  go_wp2_with fail
  refine (H3'.out _ HS).mono ?_
  rintro er w' ⟨rfl, hb⟩
  replace HS := HS.below hb
  replace tt : Below w.heap.size w w' := tt.trans (hb.mono tt.size)
  replace hR := own_below hb hR
  (try clear cc_hR ff_hR); (try clear zz_hR)
  obtain ⟨cc_hR, ff_hR⟩ := own_cells hR
  have zz_hR := own_lt hR
  clear hb
  go_wp2_with fail
  have hQ := own_cells (own_new w' (.cells #[Value.nilIface, (.iface 79 (.pointer (some b0))), Value.nilIface] 42))
  refine (eJoin_010 w'.heap.size 3 b0 _ (by simp) (hQ.1 0) (hQ.1 1) (hQ.1 2)).mono ?_
  rintro er w2 ⟨pj, q, n, cc, rfl, hb, j1, j2, j3, j4, j5⟩
  have zt := tt.size
  replace tt : Below w.heap.size w w2 := (tt.alloc zt _).trans (hb.mono (by simp; omega))
  replace hR := own_below hb (own_alloc hR _)
  clear cc_hR ff_hR zz_hR hQ
  obtain ⟨cc_hR, ff_hR⟩ := own_cells hR
  have zz_hR := own_lt hR
  simp only [World.size_alloc] at j4 j5
  go_wp2_with fail
  have n1 : ¬ pj = w.heap.size := by have := hR; omega
  have n2 : ¬ q = w.heap.size := by have := hR; omega
  have n3 : ¬ w.heap.size = pj := by omega
  have n4 : ¬ w.heap.size = q := by omega
  refine bodyPost_ret (v := .tuple #[.agg #[.int .i64 0, .int .i64 0, .bool false, .bool false, .bool false], .iface 66 (.pointer (some ⟨pj, 0, none⟩))]) (by simp only [results, Tryd.results18]; go_simp) rfl (show Failed b0 w _ _ from ⟨?_, _, rfl, .inr ⟨pj, q, n, cc, rfl, ?_, ?_, j3⟩⟩)
  · have zt := tt.size
    (repeat (first | with_reducible exact tt | (with_reducible refine Below.setCell ?_ ?_ _) | (with_reducible refine Below.alloc ?_ ?_ _) | (with_reducible refine Below.drew ?_) | with_reducible refine Below.drewN' ?_ _)); (all_goals (first | omega | (simp <;> omega)))
  · go_simp
  · go_simp
set_option maxHeartbeats 4000000 in
theorem parseRight_bad_011 (b0 : Addr) (a b c d e f : UInt8) (hb46 : (b == 46) = true) (k1 : flB d 114 = true) (k2 : flB e 119 = false) (k3 : flB f 107 = false) (w : World) (hS : Sent b0 w) :
    Calls Tryd.prog 18 #[.string ⟨#[a, b, c, d, e, f]⟩] w (Failed b0 w) := by
  have i0 : (⟨#[a, b, c, d, e, f]⟩ : ByteArray)[0]'(by show 0 < 6; decide) = a := rfl
  have i1 : (⟨#[a, b, c, d, e, f]⟩ : ByteArray)[1]'(by show 1 < 6; decide) = b := rfl
  have i2 : (⟨#[a, b, c, d, e, f]⟩ : ByteArray)[2]'(by show 2 < 6; decide) = c := rfl
  have i3 : (⟨#[a, b, c, d, e, f]⟩ : ByteArray)[3]'(by show 3 < 6; decide) = d := rfl
  have i4 : (⟨#[a, b, c, d, e, f]⟩ : ByteArray)[4]'(by show 4 < 6; decide) = e := rfl
  have i5 : (⟨#[a, b, c, d, e, f]⟩ : ByteArray)[5]'(by show 5 < 6; decide) = f := rfl
  have l1 : (a.toNat : Int) ≤ 255 := by have := a.toNat_lt; omega
  have l2 : (c.toNat : Int) ≤ 255 := by have := c.toNat_lt; omega
  have hR := own_new w (.cells #[.int .i64 0, .int .i64 0, .bool false, .bool false, .bool false] 24)
  have e2 : ((b.toNat : Int) != 46) = false := by
    have := u8_eq b 46 (by decide)
    have e : ((b.toNat : Int) == 46) = true := by rw [← hb46]; exact this
    simp only [bne, e, Bool.not_true]
  have H1 := fun w h => parseFlag_any b0 d 114 114 rfl w h
  have H2 := fun w h => parseFlag_any b0 e 119 119 rfl w h
  have H3 := fun w h => parseFlag_any b0 f 107 107 rfl w h
  rw [k1, flE_true] at H1
  rw [k2, flE_false] at H2
  rw [k3, flE_false] at H3
  generalize (d == 114) = g1 at H1
  generalize (e == 119) = g2 at H2
  generalize (f == 107) = g3 at H3
  have H1' := hid H1
  have H2' := hid H2
  have H3' := hid H3
  clear H1 H2 H3 k1 k2 k3 hb46
  go_enter Tryd.func18, Tryd.ntmps18
  go_wp2_with fail
  have HS : Sent b0 (w.alloc (.cells #[.int .i64 0, .int .i64 0, .bool false, .bool false, .bool false] 24)) := hS.alloc _
  have tt : Below w.heap.size w (w.alloc (.cells #[.int .i64 0, .int .i64 0, .bool false, .bool false, .bool false] 24)) := (Below.refl _ _).alloc (Nat.le_refl _) _
  have hw0 := hS.cell.2
  clear hS
  refine (H1'.out _ HS).mono ?_
  rintro er w' ⟨rfl, hb⟩
  replace HS := HS.below hb
  replace tt : Below w.heap.size w w' := tt.trans (hb.mono tt.size)
  replace hR := own_below hb hR
  (try clear cc_hR ff_hR); (try clear zz_hR)
  obtain ⟨cc_hR, ff_hR⟩ := own_cells hR
  have zz_hR := own_lt hR
  clear hb
  go_wp2_with fail
  refine (H2'.out _ HS).mono ?_
  rintro er w' ⟨rfl, hb⟩
  replace HS := HS.below hb
  replace tt : Below w.heap.size w w' := tt.trans (hb.mono tt.size)
  replace hR := own_below hb hR
  (try clear cc_hR ff_hR); (try clear zz_hR)
  obtain ⟨cc_hR, ff_hR⟩ := own_cells hR
  have zz_hR := own_lt hR
  clear hb
  go_wp2_with fail
  refine (H3'.out _ HS).mono ?_
  rintro er w' ⟨rfl, hb⟩
  replace HS := HS.below hb
  replace tt : Below w.heap.size w w' := tt.trans (hb.mono tt.size)
  replace hR := own_below hb hR
  (try clear cc_hR ff_hR); (try clear zz_hR)
  obtain ⟨cc_hR, ff_hR⟩ := own_cells hR
  have zz_hR := own_lt hR
  clear hb
  go_wp2_with fail
  have hQ := own_cells (own_new w' (.cells #[Value.nilIface, (.iface 79 (.pointer (some b0))), (.iface 79 (.pointer (some b0)))] 42))
  refine (eJoin_011 w'.heap.size 3 b0 _ (by simp) (hQ.1 0) (hQ.1 1) (hQ.1 2)).mono ?_
  rintro er w2 ⟨pj, q, n, cc, rfl, hb, j1, j2, j3, j4, j5⟩
  have zt := tt.size
  replace tt : Below w.heap.size w w2 := (tt.alloc zt _).trans (hb.mono (by simp; omega))
  replace hR := own_below hb (own_alloc hR _)
  clear cc_hR ff_hR zz_hR hQ
  obtain ⟨cc_hR, ff_hR⟩ := own_cells hR
  have zz_hR := own_lt hR
  simp only [World.size_alloc] at j4 j5
  go_wp2_with fail
  have n1 : ¬ pj = w.heap.size := by have := hR; omega
  have n2 : ¬ q = w.heap.size := by have := hR; omega
  have n3 : ¬ w.heap.size = pj := by omega
  have n4 : ¬ w.heap.size = q := by omega
  refine bodyPost_ret (v := .tuple #[.agg #[.int .i64 0, .int .i64 0, .bool false, .bool false, .bool false], .iface 66 (.pointer (some ⟨pj, 0, none⟩))]) (by simp only [results, Tryd.results18]; go_simp) rfl (show Failed b0 w _ _ from ⟨?_, _, rfl, .inr ⟨pj, q, n, cc, rfl, ?_, ?_, j3⟩⟩)
  · have zt := tt.size
    (repeat (first | with_reducible exact tt | (with_reducible refine Below.setCell ?_ ?_ _) | (with_reducible refine Below.alloc ?_ ?_ _) | (with_reducible refine Below.drew ?_) | with_reducible refine Below.drewN' ?_ _)); (all_goals (first | omega | (simp <;> omega)))
  · go_simp
  · go_simp
set_option maxHeartbeats 4000000 in
theorem parseRight_bad_100 (b0 : Addr) (a b c d e f : UInt8) (hb46 : (b == 46) = true) (k1 : flB d 114 = false) (k2 : flB e 119 = true) (k3 : flB f 107 = true) (w : World) (hS : Sent b0 w) :
    Calls Tryd.prog 18 #[.string ⟨#[a, b, c, d, e, f]⟩] w (Failed b0 w) := by
  have i0 : (⟨#[a, b, c, d, e, f]⟩ : ByteArray)[0]'(by show 0 < 6; decide) = a := rfl
  have i1 : (⟨#[a, b, c, d, e, f]⟩ : ByteArray)[1]'(by show 1 < 6; decide) = b := rfl
  have i2 : (⟨#[a, b, c, d, e, f]⟩ : ByteArray)[2]'(by show 2 < 6; decide) = c := rfl
  have i3 : (⟨#[a, b, c, d, e, f]⟩ : ByteArray)[3]'(by show 3 < 6; decide) = d := rfl
  have i4 : (⟨#[a, b, c, d, e, f]⟩ : ByteArray)[4]'(by show 4 < 6; decide) = e := rfl
  have i5 : (⟨#[a, b, c, d, e, f]⟩ : ByteArray)[5]'(by show 5 < 6; decide) = f := rfl
  have l1 : (a.toNat : Int) ≤ 255 := by have := a.toNat_lt; omega
  have l2 : (c.toNat : Int) ≤ 255 := by have := c.toNat_lt; omega
  have hR := own_new w (.cells #[.int .i64 0, .int .i64 0, .bool false, .bool false, .bool false] 24)
  have e2 : ((b.toNat : Int) != 46) = false := by
    have := u8_eq b 46 (by decide)
    have e : ((b.toNat : Int) == 46) = true := by rw [← hb46]; exact this
    simp only [bne, e, Bool.not_true]
  have H1 := fun w h => parseFlag_any b0 d 114 114 rfl w h
  have H2 := fun w h => parseFlag_any b0 e 119 119 rfl w h
  have H3 := fun w h => parseFlag_any b0 f 107 107 rfl w h
  rw [k1, flE_false] at H1
  rw [k2, flE_true] at H2
  rw [k3, flE_true] at H3
  generalize (d == 114) = g1 at H1
  generalize (e == 119) = g2 at H2
  generalize (f == 107) = g3 at H3
  have H1' := hid H1
  have H2' := hid H2
  have H3' := hid H3
  clear H1 H2 H3 k1 k2 k3 hb46
  go_enter Tryd.func18, Tryd.ntmps18
  go_wp2_with fail
  have HS : Sent b0 (w.alloc (.cells #[.int .i64 0, .int .i64 0, .bool false, .bool false, .bool false] 24)) := hS.alloc _
  have tt : Below w.heap.size w (w.alloc (.cells #[.int .i64 0, .int .i64 0, .bool false, .bool false, .bool false] 24)) := (Below.refl _ _).alloc (Nat.le_refl _) _
  have hw0 := hS.cell.2
  clear hS
  refine (H1'.out _ HS).mono ?_
  rintro er w' ⟨rfl, hb⟩
  replace HS := HS.below hb
  replace tt : Below w.heap.size w w' := tt.trans (hb.mono tt.size)
  replace hR := own_below hb hR
  (try clear cc_hR ff_hR); (try clear zz_hR)
  obtain ⟨cc_hR, ff_hR⟩ := own_cells hR
  have zz_hR := own_lt hR
  clear hb
  go_wp2_with fail
  refine (H2'.out _ HS).mono ?_
  rintro er w' ⟨rfl, hb⟩
  replace HS := HS.below hb
  replace tt : Below w.heap.size w w' := tt.trans (hb.mono tt.size)
  replace hR := own_below hb hR
  (try clear cc_hR ff_hR); (try clear zz_hR)
  obtain ⟨cc_hR, ff_hR⟩ := own_cells hR
  have zz_hR := own_lt hR
  clear hb
  go_wp2_with fail
  refine (H3'.out _ HS).mono ?_
  rintro er w' ⟨rfl, hb⟩
  replace HS := HS.below hb
  replace tt : Below w.heap.size w w' := tt.trans (hb.mono tt.size)
  replace hR := own_below hb hR
  (try clear cc_hR ff_hR); (try clear zz_hR)
  obtain ⟨cc_hR, ff_hR⟩ := own_cells hR
  have zz_hR := own_lt hR
  clear hb
  go_wp2_with fail
  have hQ := own_cells (own_new w' (.cells #[(.iface 79 (.pointer (some b0))), Value.nilIface, Value.nilIface] 42))
  refine (eJoin_100 w'.heap.size 3 b0 _ (by simp) (hQ.1 0) (hQ.1 1) (hQ.1 2)).mono ?_
  rintro er w2 ⟨pj, q, n, cc, rfl, hb, j1, j2, j3, j4, j5⟩
  have zt := tt.size
  replace tt : Below w.heap.size w w2 := (tt.alloc zt _).trans (hb.mono (by simp; omega))
  replace hR := own_below hb (own_alloc hR _)
  clear cc_hR ff_hR zz_hR hQ
  obtain ⟨cc_hR, ff_hR⟩ := own_cells hR
  have zz_hR := own_lt hR
  simp only [World.size_alloc] at j4 j5
  go_wp2_with fail
  have n1 : ¬ pj = w.heap.size := by have := hR; omega
  have n2 : ¬ q = w.heap.size := by have := hR; omega
  have n3 : ¬ w.heap.size = pj := by omega
  have n4 : ¬ w.heap.size = q := by omega
  refine bodyPost_ret (v := .tuple #[.agg #[.int .i64 0, .int .i64 0, .bool false, .bool false, .bool false], .iface 66 (.pointer (some ⟨pj, 0, none⟩))]) (by simp only [results, Tryd.results18]; go_simp) rfl (show Failed b0 w _ _ from ⟨?_, _, rfl, .inr ⟨pj, q, n, cc, rfl, ?_, ?_, j3⟩⟩)
  · have zt := tt.size
    (repeat (first | with_reducible exact tt | (with_reducible refine Below.setCell ?_ ?_ _) | (with_reducible refine Below.alloc ?_ ?_ _) | (with_reducible refine Below.drew ?_) | with_reducible refine Below.drewN' ?_ _)); (all_goals (first | omega | (simp <;> omega)))
  · go_simp
  · go_simp
set_option maxHeartbeats 4000000 in
theorem parseRight_bad_101 (b0 : Addr) (a b c d e f : UInt8) (hb46 : (b == 46) = true) (k1 : flB d 114 = false) (k2 : flB e 119 = true) (k3 : flB f 107 = false) (w : World) (hS : Sent b0 w) :
    Calls Tryd.prog 18 #[.string ⟨#[a, b, c, d, e, f]⟩] w (Failed b0 w) := by
  have i0 : (⟨#[a, b, c, d, e, f]⟩ : ByteArray)[0]'(by show 0 < 6; decide) = a := rfl
  have i1 : (⟨#[a, b, c, d, e, f]⟩ : ByteArray)[1]'(by show 1 < 6; decide) = b := rfl
  have i2 : (⟨#[a, b, c, d, e, f]⟩ : ByteArray)[2]'(by show 2 < 6; decide) = c := rfl
  have i3 : (⟨#[a, b, c, d, e, f]⟩ : ByteArray)[3]'(by show 3 < 6; decide) = d := rfl
  have i4 : (⟨#[a, b, c, d, e, f]⟩ : ByteArray)[4]'(by show 4 < 6; decide) = e := rfl
  have i5 : (⟨#[a, b, c, d, e, f]⟩ : ByteArray)[5]'(by show 5 < 6; decide) = f := rfl
  have l1 : (a.toNat : Int) ≤ 255 := by have := a.toNat_lt; omega
  have l2 : (c.toNat : Int) ≤ 255 := by have := c.toNat_lt; omega
  have hR := own_new w (.cells #[.int .i64 0, .int .i64 0, .bool false, .bool false, .bool false] 24)
  have e2 : ((b.toNat : Int) != 46) = false := by
    have := u8_eq b 46 (by decide)
    have e : ((b.toNat : Int) == 46) = true := by rw [← hb46]; exact this
    simp only [bne, e, Bool.not_true]
  have H1 := fun w h => parseFlag_any b0 d 114 114 rfl w h
  have H2 := fun w h => parseFlag_any b0 e 119 119 rfl w h
  have H3 := fun w h => parseFlag_any b0 f 107 107 rfl w h
  rw [k1, flE_false] at H1
  rw [k2, flE_true] at H2
  rw [k3, flE_false] at H3
  generalize (d == 114) = g1 at H1
  generalize (e == 119) = g2 at H2
  generalize (f == 107) = g3 at H3
  have H1' := hid H1
  have H2' := hid H2
  have H3' := hid H3
  clear H1 H2 H3 k1 k2 k3 hb46
  go_enter Tryd.func18, Tryd.ntmps18
  go_wp2_with fail
  have HS : Sent b0 (w.alloc (.cells #[.int .i64 0, .int .i64 0, .bool false, .bool false, .bool false] 24)) := hS.alloc _
  have tt : Below w.heap.size w (w.alloc (.cells #[.int .i64 0, .int .i64 0, .bool false, .bool false, .bool false] 24)) := (Below.refl _ _).alloc (Nat.le_refl _) _
  have hw0 := hS.cell.2
  clear hS
  refine (H1'.out _ HS).mono ?_
  rintro er w' ⟨rfl, hb⟩
  replace HS := HS.below hb
  replace tt : Below w.heap.size w w' := tt.trans (hb.mono tt.size)
  replace hR := own_below hb hR
  (try clear cc_hR ff_hR); (try clear zz_hR)
  obtain ⟨cc_hR, ff_hR⟩ := own_cells hR
  have zz_hR := own_lt hR
  clear hb
  go_wp2_with fail
  refine (H2'.out _ HS).mono ?_
  rintro er w' ⟨rfl, hb⟩
  replace HS := HS.below hb
  replace tt : Below w.heap.size w w' := tt.trans (hb.mono tt.size)
  replace hR := own_below hb hR
  (try clear cc_hR ff_hR); (try clear zz_hR)
  obtain ⟨cc_hR, ff_hR⟩ := own_cells hR
  have zz_hR := own_lt hR
  clear hb
  go_wp2_with fail
  refine (H3'.out _ HS).mono ?_
  rintro er w' ⟨rfl, hb⟩
  replace HS := HS.below hb
  replace tt : Below w.heap.size w w' := tt.trans (hb.mono tt.size)
  replace hR := own_below hb hR
  (try clear cc_hR ff_hR); (try clear zz_hR)
  obtain ⟨cc_hR, ff_hR⟩ := own_cells hR
  have zz_hR := own_lt hR
  clear hb
  go_wp2_with fail
  have hQ := own_cells (own_new w' (.cells #[(.iface 79 (.pointer (some b0))), Value.nilIface, (.iface 79 (.pointer (some b0)))] 42))
  refine (eJoin_101 w'.heap.size 3 b0 _ (by simp) (hQ.1 0) (hQ.1 1) (hQ.1 2)).mono ?_
  rintro er w2 ⟨pj, q, n, cc, rfl, hb, j1, j2, j3, j4, j5⟩
  have zt := tt.size
  replace tt : Below w.heap.size w w2 := (tt.alloc zt _).trans (hb.mono (by simp; omega))
  replace hR := own_below hb (own_alloc hR _)
  clear cc_hR ff_hR zz_hR hQ
  obtain ⟨cc_hR, ff_hR⟩ := own_cells hR
  have zz_hR := own_lt hR
  simp only [World.size_alloc] at j4 j5
  go_wp2_with fail
  have n1 : ¬ pj = w.heap.size := by have := hR; omega
  have n2 : ¬ q = w.heap.size := by have := hR; omega
  have n3 : ¬ w.heap.size = pj := by omega
  have n4 : ¬ w.heap.size = q := by omega
  refine bodyPost_ret (v := .tuple #[.agg #[.int .i64 0, .int .i64 0, .bool false, .bool false, .bool false], .iface 66 (.pointer (some ⟨pj, 0, none⟩))]) (by simp only [results, Tryd.results18]; go_simp) rfl (show Failed b0 w _ _ from ⟨?_, _, rfl, .inr ⟨pj, q, n, cc, rfl, ?_, ?_, j3⟩⟩)
  · have zt := tt.size
    (repeat (first | with_reducible exact tt | (with_reducible refine Below.setCell ?_ ?_ _) | (with_reducible refine Below.alloc ?_ ?_ _) | (with_reducible refine Below.drew ?_) | with_reducible refine Below.drewN' ?_ _)); (all_goals (first | omega | (simp <;> omega)))
  · go_simp
  · go_simp
set_option maxHeartbeats 4000000 in
theorem parseRight_bad_110 (b0 : Addr) (a b c d e f : UInt8) (hb46 : (b == 46) = true) (k1 : flB d 114 = false) (k2 : flB e 119 = false) (k3 : flB f 107 = true) (w : World) (hS : Sent b0 w) :
    Calls Tryd.prog 18 #[.string ⟨#[a, b, c, d, e, f]⟩] w (Failed b0 w) := by
  have i0 : (⟨#[a, b, c, d, e, f]⟩ : ByteArray)[0]'(by show 0 < 6; decide) = a := rfl
  have i1 : (⟨#[a, b, c, d, e, f]⟩ : ByteArray)[1]'(by show 1 < 6; decide) = b := rfl
  have i2 : (⟨#[a, b, c, d, e, f]⟩ : ByteArray)[2]'(by show 2 < 6; decide) = c := rfl
  have i3 : (⟨#[a, b, c, d, e, f]⟩ : ByteArray)[3]'(by show 3 < 6; decide) = d := rfl
  have i4 : (⟨#[a, b, c, d, e, f]⟩ : ByteArray)[4]'(by show 4 < 6; decide) = e := rfl
  have i5 : (⟨#[a, b, c, d, e, f]⟩ : ByteArray)[5]'(by show 5 < 6; decide) = f := rfl
  have l1 : (a.toNat : Int) ≤ 255 := by have := a.toNat_lt; omega
  have l2 : (c.toNat : Int) ≤ 255 := by have := c.toNat_lt; omega
  have hR := own_new w (.cells #[.int .i64 0, .int .i64 0, .bool false, .bool false, .bool false] 24)
  have e2 : ((b.toNat : Int) != 46) = false := by
    have := u8_eq b 46 (by decide)
    have e : ((b.toNat : Int) == 46) = true := by rw [← hb46]; exact this
    simp only [bne, e, Bool.not_true]
  have H1 := fun w h => parseFlag_any b0 d 114 114 rfl w h
  have H2 := fun w h => parseFlag_any b0 e 119 119 rfl w h
  have H3 := fun w h => parseFlag_any b0 f 107 107 rfl w h
  rw [k1, flE_false] at H1
  rw [k2, flE_false] at H2
  rw [k3, flE_true] at H3
  generalize (d == 114) = g1 at H1
  generalize (e == 119) = g2 at H2
  generalize (f == 107) = g3 at H3
  have H1' := hid H1
  have H2' := hid H2
  have H3' := hid H3
  clear H1 H2 H3 k1 k2 k3 hb46
  go_enter Tryd.func18, Tryd.ntmps18
  go_wp2_with fail
  have HS : Sent b0 (w.alloc (.cells #[.int .i64 0, .int .i64 0, .bool false, .bool false, .bool false] 24)) := hS.alloc _
  have tt : Below w.heap.size w (w.alloc (.cells #[.int .i64 0, .int .i64 0, .bool false, .bool false, .bool false] 24)) := (Below.refl _ _).alloc (Nat.le_refl _) _
  have hw0 := hS.cell.2
  clear hS
  refine (H1'.out _ HS).mono ?_
  rintro er w' ⟨rfl, hb⟩
  replace HS := HS.below hb
  replace tt : Below w.heap.size w w' := tt.trans (hb.mono tt.size)
  replace hR := own_below hb hR
  (try clear cc_hR ff_hR); (try clear zz_hR)
  obtain ⟨cc_hR, ff_hR⟩ := own_cells hR
  have zz_hR := own_lt hR
  clear hb
  go_wp2_with fail
  refine (H2'.out _ HS).mono ?_
  rintro er w' ⟨rfl, hb⟩
  replace HS := HS.below hb
  replace tt : Below w.heap.size w w' := tt.trans (hb.mono tt.size)
  replace hR := own_below hb hR
  (try clear cc_hR ff_hR); (try clear zz_hR)
  obtain ⟨cc_hR, ff_hR⟩ := own_cells hR
  have zz_hR := own_lt hR
  clear hb
  go_wp2_with fail
  refine (H3'.out _ HS).mono ?_
  rintro er w' ⟨rfl, hb⟩
  replace HS := HS.below hb
  replace tt : Below w.heap.size w w' := tt.trans (hb.mono tt.size)
  replace hR := own_below hb hR
  (try clear cc_hR ff_hR); (try clear zz_hR)
  obtain ⟨cc_hR, ff_hR⟩ := own_cells hR
  have zz_hR := own_lt hR
  clear hb
  go_wp2_with fail
  have hQ := own_cells (own_new w' (.cells #[(.iface 79 (.pointer (some b0))), (.iface 79 (.pointer (some b0))), Value.nilIface] 42))
  refine (eJoin_110 w'.heap.size 3 b0 _ (by simp) (hQ.1 0) (hQ.1 1) (hQ.1 2)).mono ?_
  rintro er w2 ⟨pj, q, n, cc, rfl, hb, j1, j2, j3, j4, j5⟩
  have zt := tt.size
  replace tt : Below w.heap.size w w2 := (tt.alloc zt _).trans (hb.mono (by simp; omega))
  replace hR := own_below hb (own_alloc hR _)
  clear cc_hR ff_hR zz_hR hQ
  obtain ⟨cc_hR, ff_hR⟩ := own_cells hR
  have zz_hR := own_lt hR
  simp only [World.size_alloc] at j4 j5
  go_wp2_with fail
  have n1 : ¬ pj = w.heap.size := by have := hR; omega
  have n2 : ¬ q = w.heap.size := by have := hR; omega
  have n3 : ¬ w.heap.size = pj := by omega
  have n4 : ¬ w.heap.size = q := by omega
  refine bodyPost_ret (v := .tuple #[.agg #[.int .i64 0, .int .i64 0, .bool false, .bool false, .bool false], .iface 66 (.pointer (some ⟨pj, 0, none⟩))]) (by simp only [results, Tryd.results18]; go_simp) rfl (show Failed b0 w _ _ from ⟨?_, _, rfl, .inr ⟨pj, q, n, cc, rfl, ?_, ?_, j3⟩⟩)
  · have zt := tt.size
    (repeat (first | with_reducible exact tt | (with_reducible refine Below.setCell ?_ ?_ _) | (with_reducible refine Below.alloc ?_ ?_ _) | (with_reducible refine Below.drew ?_) | with_reducible refine Below.drewN' ?_ _)); (all_goals (first | omega | (simp <;> omega)))
  · go_simp
  · go_simp
set_option maxHeartbeats 4000000 in
theorem parseRight_bad_111 (b0 : Addr) (a b c d e f : UInt8) (hb46 : (b == 46) = true) (k1 : flB d 114 = false) (k2 : flB e 119 = false) (k3 : flB f 107 = false) (w : World) (hS : Sent b0 w) :
    Calls Tryd.prog 18 #[.string ⟨#[a, b, c, d, e, f]⟩] w (Failed b0 w) := by
  have i0 : (⟨#[a, b, c, d, e, f]⟩ : ByteArray)[0]'(by show 0 < 6; decide) = a := rfl
  have i1 : (⟨#[a, b, c, d, e, f]⟩ : ByteArray)[1]'(by show 1 < 6; decide) = b := rfl
  have i2 : (⟨#[a, b, c, d, e, f]⟩ : ByteArray)[2]'(by show 2 < 6; decide) = c := rfl
  have i3 : (⟨#[a, b, c, d, e, f]⟩ : ByteArray)[3]'(by show 3 < 6; decide) = d := rfl
  have i4 : (⟨#[a, b, c, d, e, f]⟩ : ByteArray)[4]'(by show 4 < 6; decide) = e := rfl
  have i5 : (⟨#[a, b, c, d, e, f]⟩ : ByteArray)[5]'(by show 5 < 6; decide) = f := rfl
  have l1 : (a.toNat : Int) ≤ 255 := by have := a.toNat_lt; omega
  have l2 : (c.toNat : Int) ≤ 255 := by have := c.toNat_lt; omega
  have hR := own_new w (.cells #[.int .i64 0, .int .i64 0, .bool false, .bool false, .bool false] 24)
  have e2 : ((b.toNat : Int) != 46) = false := by
    have := u8_eq b 46 (by decide)
    have e : ((b.toNat : Int) == 46) = true := by rw [← hb46]; exact this
    simp only [bne, e, Bool.not_true]
  have H1 := fun w h => parseFlag_any b0 d 114 114 rfl w h
  have H2 := fun w h => parseFlag_any b0 e 119 119 rfl w h
  have H3 := fun w h => parseFlag_any b0 f 107 107 rfl w h
  rw [k1, flE_false] at H1
  rw [k2, flE_false] at H2
  rw [k3, flE_false] at H3
  generalize (d == 114) = g1 at H1
  generalize (e == 119) = g2 at H2
  generalize (f == 107) = g3 at H3
  have H1' := hid H1
  have H2' := hid H2
  have H3' := hid H3
  clear H1 H2 H3 k1 k2 k3 hb46
  go_enter Tryd.func18, Tryd.ntmps18
  go_wp2_with fail
  have HS : Sent b0 (w.alloc (.cells #[.int .i64 0, .int .i64 0, .bool false, .bool false, .bool false] 24)) := hS.alloc _
  have tt : Below w.heap.size w (w.alloc (.cells #[.int .i64 0, .int .i64 0, .bool false, .bool false, .bool false] 24)) := (Below.refl _ _).alloc (Nat.le_refl _) _
  have hw0 := hS.cell.2
  clear hS
  refine (H1'.out _ HS).mono ?_
  rintro er w' ⟨rfl, hb⟩
  replace HS := HS.below hb
  replace tt : Below w.heap.size w w' := tt.trans (hb.mono tt.size)
  replace hR := own_below hb hR
  (try clear cc_hR ff_hR); (try clear zz_hR)
  obtain ⟨cc_hR, ff_hR⟩ := own_cells hR
  have zz_hR := own_lt hR
  clear hb
  go_wp2_with fail
  refine (H2'.out _ HS).mono ?_
  rintro er w' ⟨rfl, hb⟩
  replace HS := HS.below hb
  replace tt : Below w.heap.size w w' := tt.trans (hb.mono tt.size)
  replace hR := own_below hb hR
  (try clear cc_hR ff_hR); (try clear zz_hR)
  obtain ⟨cc_hR, ff_hR⟩ := own_cells hR
  have zz_hR := own_lt hR
  clear hb
  go_wp2_with fail
  refine (H3'.out _ HS).mono ?_
  rintro er w' ⟨rfl, hb⟩
  replace HS := HS.below hb
  replace tt : Below w.heap.size w w' := tt.trans (hb.mono tt.size)
  replace hR := own_below hb hR
  (try clear cc_hR ff_hR); (try clear zz_hR)
  obtain ⟨cc_hR, ff_hR⟩ := own_cells hR
  have zz_hR := own_lt hR
  clear hb
  go_wp2_with fail
  have hQ := own_cells (own_new w' (.cells #[(.iface 79 (.pointer (some b0))), (.iface 79 (.pointer (some b0))), (.iface 79 (.pointer (some b0)))] 42))
  refine (eJoin_111 w'.heap.size 3 b0 _ (by simp) (hQ.1 0) (hQ.1 1) (hQ.1 2)).mono ?_
  rintro er w2 ⟨pj, q, n, cc, rfl, hb, j1, j2, j3, j4, j5⟩
  have zt := tt.size
  replace tt : Below w.heap.size w w2 := (tt.alloc zt _).trans (hb.mono (by simp; omega))
  replace hR := own_below hb (own_alloc hR _)
  clear cc_hR ff_hR zz_hR hQ
  obtain ⟨cc_hR, ff_hR⟩ := own_cells hR
  have zz_hR := own_lt hR
  simp only [World.size_alloc] at j4 j5
  go_wp2_with fail
  have n1 : ¬ pj = w.heap.size := by have := hR; omega
  have n2 : ¬ q = w.heap.size := by have := hR; omega
  have n3 : ¬ w.heap.size = pj := by omega
  have n4 : ¬ w.heap.size = q := by omega
  refine bodyPost_ret (v := .tuple #[.agg #[.int .i64 0, .int .i64 0, .bool false, .bool false, .bool false], .iface 66 (.pointer (some ⟨pj, 0, none⟩))]) (by simp only [results, Tryd.results18]; go_simp) rfl (show Failed b0 w _ _ from ⟨?_, _, rfl, .inr ⟨pj, q, n, cc, rfl, ?_, ?_, j3⟩⟩)
  · have zt := tt.size
    (repeat (first | with_reducible exact tt | (with_reducible refine Below.setCell ?_ ?_ _) | (with_reducible refine Below.alloc ?_ ?_ _) | (with_reducible refine Below.drew ?_) | with_reducible refine Below.drewN' ?_ _)); (all_goals (first | omega | (simp <;> omega)))
  · go_simp
  · go_simp
set_option maxHeartbeats 4000000 in
theorem parseRight_zero (b0 : Addr) (a b c d e f : UInt8) (hb46 : (b == 46) = true) (k1 : flB d 114 = true) (k2 : flB e 119 = true) (k3 : flB f 107 = true) (ha : ((a.toNat : Int) - 48 == 0) = true) (w : World) (hS : Sent b0 w) :
    Calls Tryd.prog 18 #[.string ⟨#[a, b, c, d, e, f]⟩] w (Failed b0 w) := by
  have i0 : (⟨#[a, b, c, d, e, f]⟩ : ByteArray)[0]'(by show 0 < 6; decide) = a := rfl
  have i1 : (⟨#[a, b, c, d, e, f]⟩ : ByteArray)[1]'(by show 1 < 6; decide) = b := rfl
  have i2 : (⟨#[a, b, c, d, e, f]⟩ : ByteArray)[2]'(by show 2 < 6; decide) = c := rfl
  have i3 : (⟨#[a, b, c, d, e, f]⟩ : ByteArray)[3]'(by show 3 < 6; decide) = d := rfl
  have i4 : (⟨#[a, b, c, d, e, f]⟩ : ByteArray)[4]'(by show 4 < 6; decide) = e := rfl
  have i5 : (⟨#[a, b, c, d, e, f]⟩ : ByteArray)[5]'(by show 5 < 6; decide) = f := rfl
  have l1 : (a.toNat : Int) ≤ 255 := by have := a.toNat_lt; omega
  have l2 : (c.toNat : Int) ≤ 255 := by have := c.toNat_lt; omega
  have hR := own_new w (.cells #[.int .i64 0, .int .i64 0, .bool false, .bool false, .bool false] 24)
  have e2 : ((b.toNat : Int) != 46) = false := by
    have := u8_eq b 46 (by decide)
    have e : ((b.toNat : Int) == 46) = true := by rw [← hb46]; exact this
    simp only [bne, e, Bool.not_true]
  have H1 := fun w h => parseFlag_any b0 d 114 114 rfl w h
  have H2 := fun w h => parseFlag_any b0 e 119 119 rfl w h
  have H3 := fun w h => parseFlag_any b0 f 107 107 rfl w h
  rw [k1, flE_true] at H1
  rw [k2, flE_true] at H2
  rw [k3, flE_true] at H3
  generalize (d == 114) = g1 at *
  generalize (e == 119) = g2 at *
  generalize (f == 107) = g3 at *
  have H1' := hid H1
  have H2' := hid H2
  have H3' := hid H3
  clear H1 H2 H3 k1 k2 k3 hb46
  go_enter Tryd.func18, Tryd.ntmps18
  go_wp2_with fail
  have HS : Sent b0 (w.alloc (.cells #[.int .i64 0, .int .i64 0, .bool false, .bool false, .bool false] 24)) := hS.alloc _
  have tt : Below w.heap.size w (w.alloc (.cells #[.int .i64 0, .int .i64 0, .bool false, .bool false, .bool false] 24)) := (Below.refl _ _).alloc (Nat.le_refl _) _
  have hw0 := hS.cell.2
  clear hS
  refine (H1'.out _ HS).mono ?_
  rintro er w' ⟨rfl, hb⟩
  replace HS := HS.below hb
  replace tt : Below w.heap.size w w' := tt.trans (hb.mono tt.size)
  replace hR := own_below hb hR
  (try clear cc_hR ff_hR); (try clear zz_hR)
  obtain ⟨cc_hR, ff_hR⟩ := own_cells hR
  have zz_hR := own_lt hR
  clear hb
  go_wp2_with fail
  refine (H2'.out _ HS).mono ?_
  rintro er w' ⟨rfl, hb⟩
  replace HS := HS.below hb
  replace tt : Below w.heap.size w w' := tt.trans (hb.mono tt.size)
  replace hR := own_below hb hR
  (try clear cc_hR ff_hR); (try clear zz_hR)
  obtain ⟨cc_hR, ff_hR⟩ := own_cells hR
  have zz_hR := own_lt hR
  clear hb
  go_wp2_with fail
  refine (H3'.out _ HS).mono ?_
  rintro er w' ⟨rfl, hb⟩
  replace HS := HS.below hb
  replace tt : Below w.heap.size w w' := tt.trans (hb.mono tt.size)
  replace hR := own_below hb hR
  (try clear cc_hR ff_hR); (try clear zz_hR)
  obtain ⟨cc_hR, ff_hR⟩ := own_cells hR
  have zz_hR := own_lt hR
  clear hb
  go_wp2_with fail
  have hQ := own_cells (own_new w' (.cells #[Value.nilIface, Value.nilIface, Value.nilIface] 42))
  refine (eJoin_nil w'.heap.size 3 _ (hQ.1 0) (hQ.1 1) (hQ.1 2)).mono ?_
  rintro er w2 ⟨rfl, rfl⟩
  have zt := tt.size
  replace hR := own_alloc hR (.cells #[Value.nilIface, Value.nilIface, Value.nilIface] 42)
  replace HS := HS.alloc (.cells #[Value.nilIface, Value.nilIface, Value.nilIface] 42)
  replace tt := tt.alloc zt (.cells #[Value.nilIface, Value.nilIface, Value.nilIface] 42)
  generalize w'.alloc (.cells #[Value.nilIface, Value.nilIface, Value.nilIface] 42) = w3 at hR HS tt ⊢
  clear cc_hR ff_hR zz_hR hQ zt
  obtain ⟨cc_hR, ff_hR⟩ := own_cells hR
  have zz_hR := own_lt hR
  go_wp2_with fail
  go_region
  have hA := own_new w3 (.cells #[.int .i64 ((a.toNat : Int) - 48), .int .i64 ((c.toNat : Int) - 48), .bool g1, .bool g2, .bool g3] 24)
  go_wp2_with fail
  obtain ⟨hg, hgl⟩ := HS.cell
  go_region
  go_wp2_with fail
  refine bodyPost_ret (v := .tuple #[.agg #[.int .i64 0, .int .i64 0, .bool false, .bool false, .bool false], (.iface 79 (.pointer (some b0)))]) (by simp only [results, Tryd.results18]; go_simp) rfl (show Failed b0 w _ _ from ⟨?_, _, rfl, .inl rfl⟩)
  have zt := tt.size
  (repeat (first | with_reducible exact tt | (with_reducible refine Below.setCell ?_ ?_ _) | (with_reducible refine Below.alloc ?_ ?_ _) | (with_reducible refine Below.drew ?_) | with_reducible refine Below.drewN' ?_ _)); (all_goals (first | omega | (simp <;> omega)))
set_option maxHeartbeats 4000000 in
theorem parseRight_not (b0 : Addr) (a b c d e f : UInt8) (hb46 : (b == 46) = true) (k1 : flB d 114 = true) (k2 : flB e 119 = true) (k3 : flB f 107 = true) (ha : ((a.toNat : Int) - 48 == 0) = false) (hk : rgtOk ((a.toNat : Int) - 48) ((c.toNat : Int) - 48) (d == 114) (e == 119) (f == 107) = false) (w : World) (hS : Sent b0 w) :
    Calls Tryd.prog 18 #[.string ⟨#[a, b, c, d, e, f]⟩] w (Failed b0 w) := by
  have i0 : (⟨#[a, b, c, d, e, f]⟩ : ByteArray)[0]'(by show 0 < 6; decide) = a := rfl
  have i1 : (⟨#[a, b, c, d, e, f]⟩ : ByteArray)[1]'(by show 1 < 6; decide) = b := rfl
  have i2 : (⟨#[a, b, c, d, e, f]⟩ : ByteArray)[2]'(by show 2 < 6; decide) = c := rfl
  have i3 : (⟨#[a, b, c, d, e, f]⟩ : ByteArray)[3]'(by show 3 < 6; decide) = d := rfl
  have i4 : (⟨#[a, b, c, d, e, f]⟩ : ByteArray)[4]'(by show 4 < 6; decide) = e := rfl
  have i5 : (⟨#[a, b, c, d, e, f]⟩ : ByteArray)[5]'(by show 5 < 6; decide) = f := rfl
  have l1 : (a.toNat : Int) ≤ 255 := by have := a.toNat_lt; omega
  have l2 : (c.toNat : Int) ≤ 255 := by have := c.toNat_lt; omega
  have hR := own_new w (.cells #[.int .i64 0, .int .i64 0, .bool false, .bool false, .bool false] 24)
  have e2 : ((b.toNat : Int) != 46) = false := by
    have := u8_eq b 46 (by decide)
    have e : ((b.toNat : Int) == 46) = true := by rw [← hb46]; exact this
    simp only [bne, e, Bool.not_true]
  have H1 := fun w h => parseFlag_any b0 d 114 114 rfl w h
  have H2 := fun w h => parseFlag_any b0 e 119 119 rfl w h
  have H3 := fun w h => parseFlag_any b0 f 107 107 rfl w h
  rw [k1, flE_true] at H1
  rw [k2, flE_true] at H2
  rw [k3, flE_true] at H3
  generalize (d == 114) = g1 at *
  generalize (e == 119) = g2 at *
  generalize (f == 107) = g3 at *
  have H1' := hid H1
  have H2' := hid H2
  have H3' := hid H3
  clear H1 H2 H3 k1 k2 k3 hb46
  go_enter Tryd.func18, Tryd.ntmps18
  go_wp2_with fail
  have HS : Sent b0 (w.alloc (.cells #[.int .i64 0, .int .i64 0, .bool false, .bool false, .bool false] 24)) := hS.alloc _
  have tt : Below w.heap.size w (w.alloc (.cells #[.int .i64 0, .int .i64 0, .bool false, .bool false, .bool false] 24)) := (Below.refl _ _).alloc (Nat.le_refl _) _
  have hw0 := hS.cell.2
  clear hS
  refine (H1'.out _ HS).mono ?_
  rintro er w' ⟨rfl, hb⟩
  replace HS := HS.below hb
  replace tt : Below w.heap.size w w' := tt.trans (hb.mono tt.size)
  replace hR := own_below hb hR
  (try clear cc_hR ff_hR); (try clear zz_hR)
  obtain ⟨cc_hR, ff_hR⟩ := own_cells hR
  have zz_hR := own_lt hR
  clear hb
  go_wp2_with fail
  refine (H2'.out _ HS).mono ?_
  rintro er w' ⟨rfl, hb⟩
  replace HS := HS.below hb
  replace tt : Below w.heap.size w w' := tt.trans (hb.mono tt.size)
  replace hR := own_below hb hR
  (try clear cc_hR ff_hR); (try clear zz_hR)
  obtain ⟨cc_hR, ff_hR⟩ := own_cells hR
  have zz_hR := own_lt hR
  clear hb
  go_wp2_with fail
  refine (H3'.out _ HS).mono ?_
  rintro er w' ⟨rfl, hb⟩
  replace HS := HS.below hb
  replace tt : Below w.heap.size w w' := tt.trans (hb.mono tt.size)
  replace hR := own_below hb hR
  (try clear cc_hR ff_hR); (try clear zz_hR)
  obtain ⟨cc_hR, ff_hR⟩ := own_cells hR
  have zz_hR := own_lt hR
  clear hb
  go_wp2_with fail
  have hQ := own_cells (own_new w' (.cells #[Value.nilIface, Value.nilIface, Value.nilIface] 42))
  refine (eJoin_nil w'.heap.size 3 _ (hQ.1 0) (hQ.1 1) (hQ.1 2)).mono ?_
  rintro er w2 ⟨rfl, rfl⟩
  have zt := tt.size
  replace hR := own_alloc hR (.cells #[Value.nilIface, Value.nilIface, Value.nilIface] 42)
  replace HS := HS.alloc (.cells #[Value.nilIface, Value.nilIface, Value.nilIface] 42)
  replace tt := tt.alloc zt (.cells #[Value.nilIface, Value.nilIface, Value.nilIface] 42)
  generalize w'.alloc (.cells #[Value.nilIface, Value.nilIface, Value.nilIface] 42) = w3 at hR HS tt ⊢
  clear cc_hR ff_hR zz_hR hQ zt
  obtain ⟨cc_hR, ff_hR⟩ := own_cells hR
  have zz_hR := own_lt hR
  go_wp2_with fail
  go_region
  have hA := own_new w3 (.cells #[.int .i64 ((a.toNat : Int) - 48), .int .i64 ((c.toNat : Int) - 48), .bool g1, .bool g2, .bool g3] 24)
  go_wp2_with fail
  refine (rightOk_any _ _ _ _ _ _).mono ?_
  rintro er w4 ⟨rfl, hb⟩
  have zt := tt.size
  replace HS := ((HS.alloc _).drew).below hb
  replace tt : Below w.heap.size w w4 := ((tt.alloc zt _).drew).trans (hb.mono (by simp; omega))
  replace hR := own_below hb (own_alloc hR _)
  replace hA := own_below hb hA
  clear cc_hR ff_hR zz_hR zt
  obtain ⟨cc_hR, ff_hR⟩ := own_cells hR
  have zz_hR := own_lt hR
  obtain ⟨cc_hA, ff_hA⟩ := own_cells hA
  have zz_hA := own_lt hA
  clear hb
  obtain ⟨hg, hgl⟩ := HS.cell
  go_wp2_with fail
  go_region
  go_wp2_with fail
  refine bodyPost_ret (v := .tuple #[.agg #[.int .i64 0, .int .i64 0, .bool false, .bool false, .bool false], (.iface 79 (.pointer (some b0)))]) (by simp only [results, Tryd.results18]; go_simp) rfl (show Failed b0 w _ _ from ⟨?_, _, rfl, .inl rfl⟩)
  have zt := tt.size
  (repeat (first | with_reducible exact tt | (with_reducible refine Below.setCell ?_ ?_ _) | (with_reducible refine Below.alloc ?_ ?_ _) | (with_reducible refine Below.drew ?_) | with_reducible refine Below.drewN' ?_ _)); (all_goals (first | omega | (simp <;> omega)))
set_option maxHeartbeats 4000000 in
theorem parseRight_yes (b0 : Addr) (a b c d e f : UInt8) (hb46 : (b == 46) = true) (k1 : flB d 114 = true) (k2 : flB e 119 = true) (k3 : flB f 107 = true) (ha : ((a.toNat : Int) - 48 == 0) = false) (hk : rgtOk ((a.toNat : Int) - 48) ((c.toNat : Int) - 48) (d == 114) (e == 119) (f == 107) = true) (w : World) (hS : Sent b0 w) :
    Calls Tryd.prog 18 #[.string ⟨#[a, b, c, d, e, f]⟩] w fun er w' => er = .returned (.tuple #[.agg #[.int .i64 ((a.toNat : Int) - 48), .int .i64 ((c.toNat : Int) - 48), .bool (d == 114), .bool (e == 119), .bool (f == 107)], .nilIface]) ∧ Below w.heap.size w w' := by
  have i0 : (⟨#[a, b, c, d, e, f]⟩ : ByteArray)[0]'(by show 0 < 6; decide) = a := rfl
  have i1 : (⟨#[a, b, c, d, e, f]⟩ : ByteArray)[1]'(by show 1 < 6; decide) = b := rfl
  have i2 : (⟨#[a, b, c, d, e, f]⟩ : ByteArray)[2]'(by show 2 < 6; decide) = c := rfl
  have i3 : (⟨#[a, b, c, d, e, f]⟩ : ByteArray)[3]'(by show 3 < 6; decide) = d := rfl
  have i4 : (⟨#[a, b, c, d, e, f]⟩ : ByteArray)[4]'(by show 4 < 6; decide) = e := rfl
  have i5 : (⟨#[a, b, c, d, e, f]⟩ : ByteArray)[5]'(by show 5 < 6; decide) = f := rfl
  have l1 : (a.toNat : Int) ≤ 255 := by have := a.toNat_lt; omega
  have l2 : (c.toNat : Int) ≤ 255 := by have := c.toNat_lt; omega
  have hR := own_new w (.cells #[.int .i64 0, .int .i64 0, .bool false, .bool false, .bool false] 24)
  have e2 : ((b.toNat : Int) != 46) = false := by
    have := u8_eq b 46 (by decide)
    have e : ((b.toNat : Int) == 46) = true := by rw [← hb46]; exact this
    simp only [bne, e, Bool.not_true]
  have H1 := fun w h => parseFlag_any b0 d 114 114 rfl w h
  have H2 := fun w h => parseFlag_any b0 e 119 119 rfl w h
  have H3 := fun w h => parseFlag_any b0 f 107 107 rfl w h
  rw [k1, flE_true] at H1
  rw [k2, flE_true] at H2
  rw [k3, flE_true] at H3
  generalize (d == 114) = g1 at *
  generalize (e == 119) = g2 at *
  generalize (f == 107) = g3 at *
  have H1' := hid H1
  have H2' := hid H2
  have H3' := hid H3
  clear H1 H2 H3 k1 k2 k3 hb46
  go_enter Tryd.func18, Tryd.ntmps18
  go_wp2_with fail
  have HS : Sent b0 (w.alloc (.cells #[.int .i64 0, .int .i64 0, .bool false, .bool false, .bool false] 24)) := hS.alloc _
  have tt : Below w.heap.size w (w.alloc (.cells #[.int .i64 0, .int .i64 0, .bool false, .bool false, .bool false] 24)) := (Below.refl _ _).alloc (Nat.le_refl _) _
  have hw0 := hS.cell.2
  clear hS
  refine (H1'.out _ HS).mono ?_
  rintro er w' ⟨rfl, hb⟩
  replace HS := HS.below hb
  replace tt : Below w.heap.size w w' := tt.trans (hb.mono tt.size)
  replace hR := own_below hb hR
  (try clear cc_hR ff_hR); (try clear zz_hR)
  obtain ⟨cc_hR, ff_hR⟩ := own_cells hR
  have zz_hR := own_lt hR
  clear hb
  go_wp2_with fail
  refine (H2'.out _ HS).mono ?_
  rintro er w' ⟨rfl, hb⟩
  replace HS := HS.below hb
  replace tt : Below w.heap.size w w' := tt.trans (hb.mono tt.size)
  replace hR := own_below hb hR
  (try clear cc_hR ff_hR); (try clear zz_hR)
  obtain ⟨cc_hR, ff_hR⟩ := own_cells hR
  have zz_hR := own_lt hR
  clear hb
  go_wp2_with fail
  refine (H3'.out _ HS).mono ?_
  rintro er w' ⟨rfl, hb⟩
  replace HS := HS.below hb
  replace tt : Below w.heap.size w w' := tt.trans (hb.mono tt.size)
  replace hR := own_below hb hR
  (try clear cc_hR ff_hR); (try clear zz_hR)
  obtain ⟨cc_hR, ff_hR⟩ := own_cells hR
  have zz_hR := own_lt hR
  clear hb
  go_wp2_with fail
  have hQ := own_cells (own_new w' (.cells #[Value.nilIface, Value.nilIface, Value.nilIface] 42))
  refine (eJoin_nil w'.heap.size 3 _ (hQ.1 0) (hQ.1 1) (hQ.1 2)).mono ?_
  rintro er w2 ⟨rfl, rfl⟩
  have zt := tt.size
  replace hR := own_alloc hR (.cells #[Value.nilIface, Value.nilIface, Value.nilIface] 42)
  replace HS := HS.alloc (.cells #[Value.nilIface, Value.nilIface, Value.nilIface] 42)
  replace tt := tt.alloc zt (.cells #[Value.nilIface, Value.nilIface, Value.nilIface] 42)
  generalize w'.alloc (.cells #[Value.nilIface, Value.nilIface, Value.nilIface] 42) = w3 at hR HS tt ⊢
  clear cc_hR ff_hR zz_hR hQ zt
  obtain ⟨cc_hR, ff_hR⟩ := own_cells hR
  have zz_hR := own_lt hR
  go_wp2_with fail
  go_region
  have hA := own_new w3 (.cells #[.int .i64 ((a.toNat : Int) - 48), .int .i64 ((c.toNat : Int) - 48), .bool g1, .bool g2, .bool g3] 24)
  go_wp2_with fail
  refine (rightOk_any _ _ _ _ _ _).mono ?_
  rintro er w4 ⟨rfl, hb⟩
  have zt := tt.size
  replace HS := ((HS.alloc _).drew).below hb
  replace tt : Below w.heap.size w w4 := ((tt.alloc zt _).drew).trans (hb.mono (by simp; omega))
  replace hR := own_below hb (own_alloc hR _)
  replace hA := own_below hb hA
  clear cc_hR ff_hR zz_hR zt
  obtain ⟨cc_hR, ff_hR⟩ := own_cells hR
  have zz_hR := own_lt hR
  obtain ⟨cc_hA, ff_hA⟩ := own_cells hA
  have zz_hA := own_lt hA
  clear hb
  obtain ⟨hg, hgl⟩ := HS.cell
  go_wp2_with fail
  refine bodyPost_ret (v := .tuple #[.agg #[.int .i64 ((a.toNat : Int) - 48), .int .i64 ((c.toNat : Int) - 48), .bool g1, .bool g2, .bool g3], .nilIface]) (by simp only [results, Tryd.results18]; go_simp) rfl ⟨rfl, ?_⟩
  have zt := tt.size
  (repeat (first | with_reducible exact tt | (with_reducible refine Below.setCell ?_ ?_ _) | (with_reducible refine Below.alloc ?_ ?_ _) | (with_reducible refine Below.drew ?_) | with_reducible refine Below.drewN' ?_ _)); (all_goals (first | omega | (simp <;> omega)))
end Go.Proofs.YtehnnnopjghbpaaDoor
