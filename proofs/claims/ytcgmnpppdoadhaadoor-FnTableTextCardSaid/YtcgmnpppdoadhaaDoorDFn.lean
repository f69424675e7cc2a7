/- The drawn tables of the laws: contracts of the reference's l71Fine, DrawTableOk, l71Run, DrawCheckSees, DrawCheckTouches. No condition but that the code is a row of bytes. -/
import Derived.Test.YtcgmnpppdoadhaaDoorDTb
import Derived.Test.YtcgmnpppdoadhaaDoorTbl2
namespace Go.Proofs.YtcgmnpppdoadhaaDoor
set_option maxRecDepth 100000
open Go.RowKit
set_option linter.unusedVariables false
set_option linter.unusedSimpArgs false

/-- What a draw of a table leaves that is ok most often. -/
def FineDrawn (x : Nat) (p : Int) (w : World) (e : Ending) (w' : World) : Prop :=
  ∃ (a : Option Addr) (n c : Nat), e = .returned (.slice a n c) ∧ 3 ≤ n ∧ n ≤ 8 ∧ TbO w' w.heap.size n (.slice a n c) ∧ ∃ q : Int, p ≤ q ∧ q ≤ p + 6000 ∧ Rd w' x q ∧ Kept x w w'
/-- What a draw of a table leaves, in plain data. -/
def TabDrawn (w : World) (e : Ending) (w' : World) : Prop :=
  ∃ (ts : List Th) (a : Option Addr) (c : Nat), e = .returned (.slice a ts.length c) ∧ 3 ≤ ts.length ∧ ts.length ≤ 8 ∧ RowT w' a ts ∧ Below w.heap.size w w'
set_option maxHeartbeats 4000000 in
set_option maxRecDepth 100000 in
theorem l71Fine_any (x : Nat) (p : Int) (w : World) (hr : Rd w x p) (hp0 : 0 ≤ p) (hp : p ≤ 60000000) :
    Calls Tryd.prog 22 #[.pointer (some ⟨x, 0, none⟩)] w (FineDrawn x p w) := by
  have hx := hr.lt
  go_enter Tryd.func22, Tryd.ntmps22
  go_wp2_with fail
  refine (l71Table_any _ _ _ hr (by omega) (by omega)).mono ?_
  rintro e w1 ⟨a, n, c, rfl, h3, h8, hTb, q, hq1, hq2, r1, k1⟩
  go_wp2_with fail
  go_loopw [3, 4] (fun tv i wr => ∃ k : Nat, i = .int .i64 (k : Int) ∧ k ≤ 4 ∧ ∃ (a : Option Addr) (n c : Nat), tv = .slice a n c ∧ 3 ≤ n ∧ n ≤ 8 ∧ TbO wr w.heap.size n (.slice a n c) ∧ ∃ q : Int, p ≤ q ∧ q ≤ p + 1000 + 1010 * k ∧ Rd wr x q ∧ Kept x w wr) (fun _ i _ => (4 - intOf i).toNat)
  case atStart => exact ⟨0, rfl, by omega, _, _, _, rfl, h3, h8, hTb, q, by omega, by omega, r1, k1⟩
  case round =>
    clear hTb r1 k1
    obtain ⟨k, rfl, hk4, a', n', c', rfl, h3, h8, hTb, q', hq3, hq4, r1, k1⟩ := hrel
    by_cases hki : k < 4
    · go_wp2_with fail
      refine (pick_any _ _ _ _ r1 (by omega) (by omega)).mono ?_
      rintro e w2 ⟨m, rfl, _, _, _, r2, k2⟩
      replace hTb := hTb.kept k2 hx
      replace k1 := k1.trans k2
      clear k2 r1
      cases hm : decide (0 < m)
      · go_wp2_with fail
        go_ret
        exact ⟨_, _, _, rfl, h3, h8, hTb, q' + 1, by omega, by omega, r2, k1⟩
      · go_wp2_with fail
        obtain ⟨ts, rfl, _, hT⟩ := hTb.open
        refine (stableOk_any _ _ ts _ hT).mono ?_
        rintro e w3 ⟨rfl, b3⟩
        replace hTb := hTb.below b3
        replace k1 := k1.of_below b3
        replace r2 := r2.below b3
        clear b3 hT
        generalize tblOk ts = B
        generalize ts.length = n' at *
        cases B
        · go_wp2_with fail
          refine (l71Table_any _ _ _ r2 (by omega) (by omega)).mono ?_
          rintro e w4 ⟨a4, n4, c4, rfl, h43, h48, hTb4, q4, hq41, hq42, r4, k4⟩
          have zk := k1.size
          replace k1 := k1.trans k4
          replace hTb4 := hTb4.mono (base' := w.heap.size) zk
          clear k4 r2 hTb
          go_wp2_with fail
          go_roundw
          case rel => exact ⟨k + 1, by go_num, by omega, _, _, _, rfl, h43, h48, hTb4, q4, by omega, by omega, r4, k1⟩
          case measure => simp [intOf]; omega
        · go_wp2_with fail
          go_ret
          exact ⟨_, _, _, rfl, h3, h8, hTb, q' + 1, by omega, by omega, r2, k1⟩
    · go_wp2_with fail
      go_ret
      exact ⟨_, _, _, rfl, h3, h8, hTb, q', by omega, by omega, r1, k1⟩
set_option maxHeartbeats 4000000 in
set_option maxRecDepth 100000 in
theorem l71Run_any (x base n c : Nat) (a : Option Addr) (p : Int) (w : World) (hr : Rd w x p) (hp0 : 0 ≤ p) (hp : p ≤ 90000000) (hTb : TbO w base n (.slice a n c)) (hx : x < base) (h3 : 3 ≤ n) (h8 : n ≤ 8) :
    Calls Tryd.prog 39 #[.pointer (some ⟨x, 0, none⟩), .slice a n c] w fun e w' => ∃ r : Int, e = .returned (.int .i64 r) ∧ 1 ≤ r ∧ r ≤ n ∧ ∃ q : Int, p ≤ q ∧ q ≤ p + 20 ∧ Rd w' x q ∧ Kept x w w' := by
  have lx := hr.lt
  go_enter Tryd.func39, Tryd.ntmps39
  go_wp2_with fail
  have k0 : Kept x w w := Kept.refl _ _
  go_loopw [5] (fun i wr => ∃ k : Nat, i = .int .i64 (k : Int) ∧ k ≤ 6 ∧ ∃ q : Int, p ≤ q ∧ q ≤ p + 2 * k ∧ Rd wr x q ∧ Kept x w wr) (fun i _ => (6 - intOf i).toNat)
  case atStart => exact ⟨0, rfl, by omega, p, by omega, by omega, hr, k0⟩
  case round =>
    obtain ⟨k, rfl, hk6, q, hq1, hq2, r1, k1⟩ := hrel
    by_cases hki : k < 6
    · go_wp2_with fail
      refine (pick_any _ _ _ _ r1 (by omega) (by omega)).mono ?_
      rintro e w2 ⟨m, rfl, _, _, _, r2, k2⟩
      replace k1 := k1.trans k2
      clear k2 r1
      cases hm : decide (0 < m)
      · go_wp2_with fail
        refine (pick_any _ _ _ _ r2 (by omega) (by omega)).mono ?_
        rintro e w3 ⟨m3, rfl, h30, h31, _, r3, k3⟩
        replace h31 := h31 (by omega)
        replace k1 := k1.trans k3
        clear k3 r2
        go_wp2_with fail
        go_ret
        exact ⟨1 + m3, by go_num, by omega, by omega, q + 1 + 1, by omega, by omega, r3, k1⟩
      · go_wp2_with fail
        refine (pick_any _ _ _ _ r2 (by omega) (by omega)).mono ?_
        rintro e w3 ⟨m3, rfl, h30, h31, _, r3, k3⟩
        replace h31 := h31 (by omega)
        replace k1 := k1.trans k3
        clear k3 r2
        obtain ⟨i3, rfl⟩ : ∃ i : Nat, m3 = i := ⟨m3.toNat, by omega⟩
        have hTb3 := hTb.kept k1 hx
        obtain ⟨G, tc', csG, hv, _, hG, hszG⟩ := hTb3.row (by omega)
        cases hv
        obtain ⟨⟨y0, y1, y2, y3, y4, sa, sn, sc, qa, qn, qc, y5⟩, hO, hA⟩ := hTb3.get (j := i3) (by omega)
        have cK : w3.cell? ⟨G, i3 * 8, none⟩ = some (.int .i64 y0) := hA.1
        clear hO hA hG hTb3
        cases hy : (y0 == 3)
        · go_wp2_with fail
          go_roundw
          case rel => exact ⟨k + 1, by go_num, by omega, q + 1 + 1, by omega, by omega, r3, k1⟩
          case measure => simp [intOf]; omega
        · go_wp2_with fail
          go_ret
          exact ⟨1 + i3, by go_num, by omega, by omega, q + 1 + 1, by omega, by omega, r3, k1⟩
    · go_wp2_with fail
      refine (pick_any _ _ _ _ r1 (by omega) (by omega)).mono ?_
      rintro e w3 ⟨m3, rfl, h30, h31, _, r3, k3⟩
      replace h31 := h31 (by omega)
      replace k1 := k1.trans k3
      clear k3 r1
      go_wp2_with fail
      go_ret
      exact ⟨1 + m3, by go_num, by omega, by omega, q + 1, by omega, by omega, r3, k1⟩
set_option maxHeartbeats 4000000 in
set_option maxRecDepth 100000 in
theorem drawTableOk_any (a : Option Addr) (len cap : Nat) (z : List Int) (w : World) (hr : IsRow .u8 w a len cap z) :
    Calls Tryd.prog 14 #[.slice a len cap] w (TabDrawn w) := by
  go_enter Tryd.func14, Tryd.ntmps14
  go_wp2_with fail
  refine (l6Open_any _ _ _ _ _ hr).mono ?_
  rintro e w0 ⟨x, hx0, rfl, r0, b0⟩
  have z0 := b0.size
  try simp at z0
  have lx0 := r0.lt
  try simp at hx0
  have t0 : Kept x w w0 := by
    refine Kept.of_below ?_ b0
    · repeat (first | exact Kept.refl _ _ | refine Kept.alloc ?_ _)
  obtain ⟨c0, f0⟩ := bcell b0
  clear b0 c0 f0
  go_wp2_with fail
  refine (l71Table_any _ _ _ r0 (by omega) (by omega)).mono ?_
  rintro e w1 ⟨ta, n, c, rfl, h3, h8, hTb, q, hq1, hq2, r1, k1⟩
  replace t0 := t0.trans k1
  go_wp2_with fail
  refine (pick_any _ _ _ _ r1 (by omega) (by omega)).mono ?_
  rintro e w2 ⟨m, rfl, _, _, _, r2, k2⟩
  replace t0 := t0.trans k2
  replace hTb := hTb.kept k2 (by omega)
  clear k1 k2 r1
  cases hm : (m == 0)
  · go_wp2_with fail
    go_ret
    obtain ⟨ts, hl, _, hT⟩ := hTb.open
    subst hl
    exact ⟨ts, _, _, rfl, h3, h8, hT, t0.below' (by omega)⟩
  · go_wp2_with fail
    refine (pick_any _ _ _ _ r2 (by omega) (by omega)).mono ?_
    rintro e w3 ⟨m3, rfl, h30, h31, _, r3, k3⟩
    replace h31 := h31 (by omega)
    obtain ⟨i3, rfl⟩ : ∃ i : Nat, m3 = i := ⟨m3.toNat, by omega⟩
    replace t0 := t0.trans k3
    replace hTb := hTb.kept k3 (by omega)
    clear k3 r2
    go_wp2_with fail
    have hO := own_new w3 (.cells #[.int .i64 (-4), .int .i64 (-1), .int .i64 0, .int .i64 50] 3)
    have hB := (Below.refl w3.heap.size w3).alloc (Nat.le_refl _) (.cells #[.int .i64 (-4), .int .i64 (-1), .int .i64 0, .int .i64 50] 3)
    replace t0 := t0.of_below hB
    replace hTb := hTb.below hB
    have lx3 := r3.lt
    refine (pick_any _ _ _ _ (r3.below hB) (by omega) (by omega)).mono ?_
    rintro e w4 ⟨mm, rfl, hn0, hn1, _, r4, k4⟩
    replace hn1 := hn1 (by omega)
    replace hO := own_kept k4 (by omega) hO
    replace t0 := t0.trans k4
    replace hTb := hTb.kept k4 (by omega)
    clear k4 r3 hB
    obtain ⟨cO, fO⟩ := own_cells hO
    obtain ⟨y, hy, _⟩ := pick_list [.int .i64 (-4), .int .i64 (-1), .int .i64 0, .int .i64 50] mm.toNat (fun _ => True) (by simp) (by simp; omega)
    obtain ⟨G, tc', csG, hv, hbG, hG, hszG⟩ := hTb.row (by omega)
    cases hv
    have fG := (own_cells hG).2
    obtain ⟨v0, cG⟩ := own_at hG (o := i3 * 8 + 4) (by omega)
    clear hG
    go_wp2_with fail
    go_ret
    have hTb' := hTb.put4 (j := i3) (by omega) y
    obtain ⟨ts, hl, _, hT⟩ := hTb'.open
    subst hl
    exact ⟨ts, _, _, rfl, h3, h8, hT, (t0.setCell_new (p := ⟨G, i3 * 8 + 4, none⟩) (show w.heap.size ≤ G by omega) _).below' (by omega)⟩
end Go.Proofs.YtcgmnpppdoadhaaDoor
