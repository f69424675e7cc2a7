/- The drawn table and call: contracts of the reference's l71Call and DrawCheckCall. No condition but that the code is a row of bytes. -/
import Derived.Test.YtcgmnpppdoadhaaDoorCkS2
import Derived.Test.YtcgmnpppdoadhaaDoorDFn
import Derived.Deep.CutRange
import Derived.Deep.CutBlock
namespace Go.Proofs.YtcgmnpppdoadhaaDoor
set_option maxRecDepth 100000
open Go Go.RowKit
set_option linter.unusedVariables false
set_option linter.unusedSimpArgs false

theorem TbO.setC {u : World} {base n : Nat} {v : Value} (h : TbO u base n v) {C : Nat} {cs : Array Value} {fr : Nat × Nat} (hC : u.heap[C]? = some (.cells cs 25 fr)) (o : Nat) (y : Value) : TbO (u.setCell ⟨C, o, none⟩ y) base n v := by
  obtain ⟨xs, h1, h2, h3⟩ := h
  refine ⟨xs, h1, ownsRow_setT h2 hC (by decide) _ _, fun x hx => ⟨?_, ?_⟩⟩
  · obtain ⟨rs, g1, g2⟩ := (h3 x hx).1; exact ⟨rs, g1, ownsRow_setT g2 hC (by decide) _ _⟩
  · obtain ⟨rs, g1, g2⟩ := (h3 x hx).2; exact ⟨rs, g1, ownsRow_setT g2 hC (by decide) _ _⟩
/-- The state of the draw of a call: the table, the call in block C, the result's block R, the reader. -/
def CSt (x : Nat) (w : World) (base n : Nat) (t : Value) (C R : Nat) (lo hi : Int) (u : World) : Prop :=
  TbO u base n t ∧ Kept x w u ∧ (∃ k r a b m : Int, 1 ≤ k ∧ k ≤ 9 ∧ 1 ≤ r ∧ r ≤ n ∧ 0 ≤ a ∧ a ≤ 3 ∧ u.heap[C]? = some (.cells #[.int .i64 k, .int .i64 r, .int .i64 a, .int .i64 b, .int .i64 m] 25 (0, 0))) ∧
    (u.heap[R]? = some (.cells #[.int .i64 0, .int .i64 0, .int .i64 0, .int .i64 0, .int .i64 0] 25 (0, 0))) ∧ ∃ q : Int, lo ≤ q ∧ q ≤ hi ∧ Rd u x q
theorem CSt.pick {x : Nat} {w : World} {base n : Nat} {t : Value} {C R : Nat} {lo hi hi' : Int} {u u' : World} {q' : Int} (h : CSt x w base n t C R lo hi u) (hx : x < base) (hC : x < C) (hR : x < R) (hk : Kept x u u') (h1 : lo ≤ q') (h2 : q' ≤ hi') (hr : Rd u' x q') : CSt x w base n t C R lo hi' u' := by
  obtain ⟨a, b, ⟨k, r, aa, bb, m, h1', h2', h3, h4, h5, h6, c⟩, d, e⟩ := h
  exact ⟨a.kept hk hx, b.trans hk, ⟨k, r, aa, bb, m, h1', h2', h3, h4, h5, h6, own_kept hk (by omega) c⟩, own_kept hk (by omega) d, q', h1, h2, hr⟩
theorem CSt.below {x : Nat} {w : World} {base n : Nat} {t : Value} {C R : Nat} {lo hi : Int} {u u' : World} (h : CSt x w base n t C R lo hi u) (hb : Below u.heap.size u u') : CSt x w base n t C R lo hi u' := by
  obtain ⟨a, b, ⟨k, r, aa, bb, m, h1', h2', h3, h4, h5, h6, c⟩, d, q, e, f, g⟩ := h
  exact ⟨a.below hb, b.of_below hb, ⟨k, r, aa, bb, m, h1', h2', h3, h4, h5, h6, own_below hb c⟩, own_below hb d, q, e, f, g.below hb⟩
theorem CSt.more {x : Nat} {w : World} {base n : Nat} {t : Value} {C R : Nat} {lo hi hi' : Int} {u : World} (h : CSt x w base n t C R lo hi u) (h2 : hi ≤ hi') : CSt x w base n t C R lo hi' u := by
  obtain ⟨a, b, c, d, q, e, f, g⟩ := h; exact ⟨a, b, c, d, q, e, by omega, g⟩
theorem CSt.put2 {x : Nat} {w : World} {base n : Nat} {t : Value} {C R : Nat} {lo hi : Int} {u : World} (h : CSt x w base n t C R lo hi u) (hC : x < C) (hw : w.heap.size ≤ C) (hCR : C ≠ R) (y : Int) (h0 : 0 ≤ y) (h3 : y ≤ 3) : CSt x w base n t C R lo hi (u.setCell ⟨C, 2, none⟩ (.int .i64 y)) := by
  obtain ⟨a, b, ⟨k, r, aa, bb, m, h1', h2', h3', h4, h5, h6, c⟩, d, q, e, f, g⟩ := h
  exact ⟨a.setC c _ _, b.setCell_new (p := ⟨C, 2, none⟩) hw _, ⟨k, r, y, bb, m, h1', h2', h3', h4, h0, h3, own_set c 2 _⟩, own_set_ne d (p := ⟨C, 2, none⟩) hCR _, q, e, f, g.setCell (a := ⟨C, 2, none⟩) hC _⟩
theorem CSt.put0 {x : Nat} {w : World} {base n : Nat} {t : Value} {C R : Nat} {lo hi : Int} {u : World} (h : CSt x w base n t C R lo hi u) (hC : x < C) (hw : w.heap.size ≤ C) (hCR : C ≠ R) (y : Int) (h0 : 1 ≤ y) (h3 : y ≤ 9) : CSt x w base n t C R lo hi (u.setCell ⟨C, 0, none⟩ (.int .i64 y)) := by
  obtain ⟨a, b, ⟨k, r, aa, bb, m, h1', h2', h3', h4, h5, h6, c⟩, d, q, e, f, g⟩ := h
  exact ⟨a.setC c _ _, b.setCell_new (p := ⟨C, 0, none⟩) hw _, ⟨y, r, aa, bb, m, h0, h3, h3', h4, h5, h6, own_set c 0 _⟩, own_set_ne d (p := ⟨C, 0, none⟩) hCR _, q, e, f, g.setCell (a := ⟨C, 0, none⟩) hC _⟩
/-- The state behind the draw: the table is no longer looked at. -/
def CEnd (x : Nat) (w : World) (n C R : Nat) (lo hi : Int) (u : World) : Prop :=
  Kept x w u ∧ (∃ k r a b m : Int, 1 ≤ r ∧ r ≤ n ∧ u.heap[C]? = some (.cells #[.int .i64 k, .int .i64 r, .int .i64 a, .int .i64 b, .int .i64 m] 25 (0, 0))) ∧
    (u.heap[R]? = some (.cells #[.int .i64 0, .int .i64 0, .int .i64 0, .int .i64 0, .int .i64 0] 25 (0, 0))) ∧ ∃ q : Int, lo ≤ q ∧ q ≤ hi ∧ Rd u x q
theorem CSt.end_ {x : Nat} {w : World} {base n : Nat} {t : Value} {C R : Nat} {lo hi hi' : Int} {u : World} (h : CSt x w base n t C R lo hi u) (h2 : hi ≤ hi') : CEnd x w n C R lo hi' u := by
  obtain ⟨a, b, ⟨k, r, aa, bb, m, h1', h2', h3', h4, h5, h6, c⟩, d, q, e, f, g⟩ := h
  exact ⟨b, ⟨k, r, aa, bb, m, h3', h4, c⟩, d, q, e, by omega, g⟩
theorem CSt.fin0 {x : Nat} {w : World} {base n : Nat} {t : Value} {C R : Nat} {lo hi hi' : Int} {u : World} (h : CSt x w base n t C R lo hi u) (h2 : hi ≤ hi') (hC : x < C) (hw : w.heap.size ≤ C) (hCR : C ≠ R) (y : Int) : CEnd x w n C R lo hi' (u.setCell ⟨C, 0, none⟩ (.int .i64 y)) := by
  obtain ⟨a, b, ⟨k, r, aa, bb, m, h1', h2', h3', h4, h5, h6, c⟩, d, q, e, f, g⟩ := h
  exact ⟨b.setCell_new (p := ⟨C, 0, none⟩) hw _, ⟨y, r, aa, bb, m, h3', h4, own_set c 0 _⟩, own_set_ne d (p := ⟨C, 0, none⟩) hCR _, q, e, by omega, g.setCell (a := ⟨C, 0, none⟩) hC _⟩
theorem CSt.fin2 {x : Nat} {w : World} {base n : Nat} {t : Value} {C R : Nat} {lo hi hi' : Int} {u : World} (h : CSt x w base n t C R lo hi u) (h2 : hi ≤ hi') (hC : x < C) (hw : w.heap.size ≤ C) (hCR : C ≠ R) (y : Int) : CEnd x w n C R lo hi' (u.setCell ⟨C, 2, none⟩ (.int .i64 y)) := by
  obtain ⟨a, b, ⟨k, r, aa, bb, m, h1', h2', h3', h4, h5, h6, c⟩, d, q, e, f, g⟩ := h
  exact ⟨b.setCell_new (p := ⟨C, 2, none⟩) hw _, ⟨k, r, y, bb, m, h3', h4, own_set c 2 _⟩, own_set_ne d (p := ⟨C, 2, none⟩) hCR _, q, e, by omega, g.setCell (a := ⟨C, 2, none⟩) hC _⟩
theorem CSt.fin4 {x : Nat} {w : World} {base n : Nat} {t : Value} {C R : Nat} {lo hi hi' : Int} {u : World} (h : CSt x w base n t C R lo hi u) (h2 : hi ≤ hi') (hC : x < C) (hw : w.heap.size ≤ C) (hCR : C ≠ R) (y : Int) : CEnd x w n C R lo hi' (u.setCell ⟨C, 4, none⟩ (.int .i64 y)) := by
  obtain ⟨a, b, ⟨k, r, aa, bb, m, h1', h2', h3', h4, h5, h6, c⟩, d, q, e, f, g⟩ := h
  exact ⟨b.setCell_new (p := ⟨C, 4, none⟩) hw _, ⟨k, r, aa, bb, y, h3', h4, own_set c 4 _⟩, own_set_ne d (p := ⟨C, 4, none⟩) hCR _, q, e, by omega, g.setCell (a := ⟨C, 4, none⟩) hC _⟩
/-- What a draw of a call leaves. -/
def CallDrawn (x n : Nat) (p : Int) (w : World) (e : Ending) (w' : World) : Prop :=
  ∃ k r a b m : Int, e = .returned (.agg #[.int .i64 k, .int .i64 r, .int .i64 a, .int .i64 b, .int .i64 m]) ∧ 1 ≤ r ∧ r ≤ n ∧ ∃ q : Int, p ≤ q ∧ q ≤ p + 100 ∧ Rd w' x q ∧ Kept x w w'
set_option maxHeartbeats 4000000 in
set_option maxRecDepth 100000 in
theorem l71Call_any (x base n c' : Nat) (a : Option Addr) (p : Int) (w : World) (hr : Rd w x p) (hp0 : 0 ≤ p) (hp : p ≤ 80000000) (hTb : TbO w base n (.slice a n c')) (hx : x < base) (h3 : 3 ≤ n) (h8 : n ≤ 8) :
    Calls Tryd.prog 23 #[.pointer (some ⟨x, 0, none⟩), .slice a n c'] w (CallDrawn x n p w) := by
  have lx := hr.lt
  have hR := own_new w (.cells #[.int .i64 0, .int .i64 0, .int .i64 0, .int .i64 0, .int .i64 0] 25)
  have hB0 := (Below.refl w.heap.size w).alloc (Nat.le_refl _) (.cells #[.int .i64 0, .int .i64 0, .int .i64 0, .int .i64 0, .int .i64 0] 25)
  have k0 := (Kept.refl x w).alloc (.cells #[.int .i64 0, .int .i64 0, .int .i64 0, .int .i64 0, .int .i64 0] 25)
  replace hTb := hTb.below hB0
  have r0 := hr.below hB0
  clear hB0 hr
  obtain ⟨G, tc', csG0, hv, hbG, _, _⟩ := hTb.row (by omega)
  cases hv
  go_enter Tryd.func23, Tryd.ntmps23
  go_wp2_with fail
  refine (pick_any _ _ _ _ r0 (by omega) (by omega)).mono ?_
  rintro e w1 ⟨m1, rfl, h10, h11, _, r1, k1⟩
  replace h11 := h11 (by omega)
  have z0 : w.heap.size < w1.heap.size := by have := k1.size; simp at this; omega
  replace k0 := k0.trans k1
  replace hR := own_kept k1 (by omega) hR
  replace hTb := hTb.kept k1 hx
  clear k1 r0
  go_wp2_with fail
  refine (l71Run_any _ base _ _ _ _ _ r1 (by omega) (by omega) hTb hx h3 h8).mono ?_
  rintro e w2 ⟨r0, rfl, hr1, hr2, q, hq1, hq2, r2, k2⟩
  have z2 := k2.size
  replace k0 := k0.trans k2
  replace hR := own_kept k2 (by omega) hR
  replace hTb := hTb.kept k2 hx
  clear k2 r1
  go_wp2_with fail
  refine (pick_any _ _ _ _ r2 (by omega) (by omega)).mono ?_
  rintro e w3 ⟨m3, rfl, h30, h31, _, r3, k3⟩
  replace h31 := h31 (by omega)
  have z3 := k3.size
  replace k0 := k0.trans k3
  replace hR := own_kept k3 (by omega) hR
  replace hTb := hTb.kept k3 hx
  clear k3 r2
  go_wp2_with fail
  refine (pick_any _ _ _ _ r3 (by omega) (by omega)).mono ?_
  rintro e w4 ⟨m4, rfl, _, _, _, r4, k4⟩
  have z4 := k4.size
  replace k0 := k0.trans k4
  replace hR := own_kept k4 (by omega) hR
  replace hTb := hTb.kept k4 hx
  clear k4 r3
  go_wp2_with fail
  refine (pick_any _ _ _ _ r4 (by omega) (by omega)).mono ?_
  rintro e w5 ⟨m5, rfl, _, _, _, r5, k5⟩
  have z5 := k5.size
  replace k0 := k0.trans k5
  replace hR := own_kept k5 (by omega) hR
  replace hTb := hTb.kept k5 hx
  clear k5 r4
  have hC := own_new w5 (.cells #[.int .i64 (1 + m1), .int .i64 r0, .int .i64 m3, .int .i64 m4, .int .i64 m5] 25)
  have hB := (Below.refl w5.heap.size w5).alloc (Nat.le_refl _) (.cells #[.int .i64 (1 + m1), .int .i64 r0, .int .i64 m3, .int .i64 m4, .int .i64 m5] 25)
  have hS : CSt x w base n (.slice (some ⟨G, 0, none⟩) n c') w5.heap.size w.heap.size p (p + 30 + 4 * (0 : Nat)) (w5.alloc (.cells #[.int .i64 (1 + m1), .int .i64 r0, .int .i64 m3, .int .i64 m4, .int .i64 m5] 25)) :=
    ⟨hTb.below hB, k0.of_below hB, ⟨_, _, _, _, _, by omega, by omega, by omega, by omega, by omega, by omega, hC⟩, own_below hB hR, _, by omega, by omega, r5.below hB⟩
  have hxC : x < w5.heap.size := by omega
  have hwC : w.heap.size < w5.heap.size := by omega
  clear hB hC hTb hR r5 k0 z2 z3 z4 z5 z0
  go_upto_block 0 with fail
  generalize w5.heap.size = C at *
  go_cut [7] from 6 to 86 (fun c wx => CSt x w base n (.slice (some ⟨G, 0, none⟩) n c') C w.heap.size p (p + 60) wx)
  case first =>
    go_wp2_with fail
    go_loopw [6] (fun i wr => ∃ k : Nat, i = .int .i64 (k : Int) ∧ k ≤ 6 ∧ CSt x w base n (.slice (some ⟨G, 0, none⟩) n c') C w.heap.size p (p + 30 + 4 * k) wr) (fun i _ => (6 - intOf i).toNat)
    case atStart => exact ⟨0, rfl, by omega, hS⟩
    case round =>
      clear hS
      obtain ⟨kk, rfl, hk6, hS⟩ := hrel
      have HS := hid hS
      go_upto_region 3 with fail
      go_cut [44] from 21 to 44 (fun c wx => ∃ b : Bool, c = .bool b ∧ CSt x w base n (.slice (some ⟨G, 0, none⟩) n c') C w.heap.size p (p + 30 + 4 * kk + 1) wx ∧ (b = true → kk < 6 ∧ ∃ (sa : Option Addr) (sc : Nat) (r : Int) (j : Nat), r = (j : Int) + 1 ∧ j < n ∧ wx.cell? ⟨C, 1, none⟩ = some (.int .i64 r) ∧ wx.cell? ⟨G, j * 8 + 5, none⟩ = some (.slice sa 4 sc) ∧ SlO wx base (.slice sa 4 sc)))
      case first =>
        obtain ⟨hTb, hk0, ⟨k, r, aa, bb, mm, e1, e2, e3, e4, e5, e6, hC⟩, hR, q, hq1, hq2, r1⟩ := hS
        have lx1 := r1.lt
        have zC := own_lt hC
        by_cases hki : kk < 6
        · clear hTb hk0 hR hC
          go_wp2_with fail
          refine (pick_any _ _ _ _ r1 (by omega) (by omega)).mono ?_
          rintro e w2 ⟨m, rfl, _, _, _, r2, k2⟩
          have hS := HS.out.pick (hi' := p + 30 + 4 * kk + 1) hx hxC lx k2 (show p ≤ q + 1 by omega) (by omega) r2
          clear k2 r1 HS
          cases hm : decide (0 < m)
          · go_wp2_with fail
            go_meet
            exact ⟨false, rfl, hS, fun h => by cases h⟩
          · have HS := hid hS
            obtain ⟨hTb, hk0, ⟨k, r, aa, bb, mm, e1, e2, e3, e4, e5, e6, hC⟩, hR, q, hq1, hq2, r1⟩ := hS
            obtain ⟨cC, fC⟩ := own_cells hC
            obtain ⟨ts, rfl, _, hT⟩ := hTb.open
            go_wp2_with fail
            refine (l11Run_any _ _ ts _ _ hT).mono ?_
            rintro e w3 ⟨rfl, b3⟩
            have hS := HS.out.below b3
            replace hTb := hTb.below b3
            replace hC := own_below b3 hC
            clear hT b3 HS hk0 hR r1 cC fC r2
            obtain ⟨j, rfl⟩ : ∃ j : Nat, r = (j : Int) + 1 := ⟨(r - 1).toNat, by omega⟩
            have hj : j < ts.length := by omega
            generalize kindAtB ts ((j : Int) + 1) 3 = B at *
            generalize ts.length = n at *
            obtain ⟨cC, fC⟩ := own_cells hC
            cases B
            · clear hC hTb
              go_wp2_with fail
              go_meet
              exact ⟨false, rfl, hS, fun h => by cases h⟩
            · obtain ⟨⟨z0, z1, z2, z3, z4, sa, sn, sc, qa, qn, qc, z5⟩, hO, hA⟩ := hTb.get (j := j) (by omega)
              obtain ⟨_, _, _, _, _, cA5, _, _⟩ := hA
              dsimp only at cA5
              have hO1 : SlO w3 base (.slice sa sn sc) := hO.1
              have hs4 : sn ≤ 4 := by obtain ⟨_, _, _, h, hh⟩ := hO1.slice; cases h; exact hh
              have hwj := wr_small hj (show n ≤ 9223372036854775807 by omega)
              have cC1 : w3.cell? ⟨C, 1, none⟩ = some (.int .i64 ((j : Int) + 1)) := cC 1
              have HO := hid hO1
              have CA := hid cA5
              clear hO hO1 hTb
              go_wp2_with fail
              go_meet
              refine ⟨((sn : Int) == 4), rfl, hS, fun h => ⟨hki, ?_⟩⟩
              have hsn : sn = 4 := by have : (sn : Int) = 4 := by simpa using h
                                      omega
              subst hsn
              exact ⟨sa, sc, _, j, rfl, hj, cC1, CA.out, HO.out⟩
        · clear hTb hk0 hR hC
          go_wp2_with fail
          go_meet
          exact ⟨false, rfl, HS.out.more (by omega), fun h => by cases h⟩
      case rest =>
        obtain ⟨b, rfl, hS, hyes⟩ := hcut
        cases b
        case false =>
          clear hyes HS
          go_wp2_with fail
          go_meet
          exact hS.more (by omega)
        case true =>
          obtain ⟨hk6, sa, sc, r, j, rfl, hj, cC1, cA5, hO⟩ := hyes rfl
          clear HS hyes
          have HS := hid hS
          obtain ⟨hTb, hk0, ⟨k, r, aa, bb, mm, e1, e2, e3, e4, e5, e6, hC⟩, hR, q, hq1, hq2, r1⟩ := hS
          obtain ⟨_, _, _, hv, _, hG, _⟩ := hTb.row (by omega)
          cases hv
          have hGlt := own_lt hG
          have hr' : r = (j : Int) + 1 := by
            have := ((own_cells hC).1 1).symm.trans cC1
            simpa using this
          subst hr'
          obtain ⟨l, rfl⟩ : ∃ l : Nat, aa = (l : Int) := ⟨aa.toNat, by omega⟩
          obtain ⟨g, cs, rfl, hbg, hg, hcs⟩ := hO.row (by omega)
          obtain ⟨rs, hrl, _, hRow⟩ := hO.open
          obtain ⟨gb, go_, xx, he', hxr, hgb, q0, q1, q2, q3, q4⟩ := hRow.at (k := l) (by omega)
          cases he'
          rw [Nat.zero_add] at q0 q1 q2 q3 q4
          obtain ⟨xt, xv, xr, xw, xk⟩ := xx
          dsimp only at q0 q1 q2 q3 q4
          have FX := fun u (hu : Below wc.heap.size wc u) => show At5 u g (l * 5) ⟨xt, xv, xr, xw, xk⟩ from ⟨(hu.cell (p := ⟨g, _, none⟩) hgb).trans q0, (hu.cell (p := ⟨g, _, none⟩) hgb).trans q1, (hu.cell (p := ⟨g, _, none⟩) hgb).trans q2, (hu.cell (p := ⟨g, _, none⟩) hgb).trans q3, (hu.cell (p := ⟨g, _, none⟩) hgb).trans q4⟩
          dsimp only [At5] at FX
          have hwj := wr_small hj (show n ≤ 9223372036854775807 by omega)
          clear q0 q1 q2 q3 q4 hRow hxr hO hg hG hTb hk0 hR r1 cC1
          go_upto_region 5 with fail
          refine wp_region_each (by kernel_rfl) (by kernel_rfl) (by kernel_rfl) (fun b ac u => ∃ t7 t47 t48 t49 t50 t51 t52 t53 t54 t55 t56 t57 : Value, ac = ⟨#[.pointer (some ⟨x, 0, none⟩), .slice (some ⟨G, 0, none⟩) n c', undef, undef, .pointer (some ⟨w.heap.size, 0, none⟩), .pointer (some ⟨C, 0, none⟩), .int .i64 (kk : Int), t7, .pointer (some ⟨x, 0, none⟩), .int .i64 m1, .int .i64 (1 + m1), .pointer (some ⟨x, 0, none⟩), .slice (some ⟨G, 0, none⟩) n c', .int .i64 r0, .pointer (some ⟨x, 0, none⟩), .int .i64 m3, .pointer (some ⟨x, 0, none⟩), .int .i64 m4, .pointer (some ⟨x, 0, none⟩), .int .i64 m5, .agg #[.int .i64 (1 + m1), .int .i64 r0, .int .i64 m3, .int .i64 m4, .int .i64 m5], u21, u22, u23, u24, u25, u26, u27, u28, u29, u30, u31, u32, u33, u34, u35, u36, u37, u38, u39, u40, u41, u42, u43, .bool true, u45, u46, t47, t48, t49, t50, t51, t52, t53, t54, t55, t56, t57, u58, u59, u60, u61, u62, u63, u64, u65, u66, u67, u68, u69, u70, u71, u72, u73, u74, u75, u76, u77, u78, u79, u80, u81, u82, u83, u84, u85, u86, undef, undef, undef, undef, undef, undef, undef, undef, undef, undef, undef, undef, undef, undef, undef, undef, undef, undef, undef, undef, undef, undef, undef, undef, undef, undef, undef], []⟩ ∧ (Below wc.heap.size wc u) ∧ (b[0]? = some true → t47 = .slice (some ⟨G, 0, none⟩) n c') ∧ (b[1]? = some true → t48 = .pointer (some ⟨C, 1, none⟩)) ∧ (b[2]? = some true → t49 = .int .i64 ((j : Int) + 1)) ∧ (b[3]? = some true → t50 = .int .i64 (j : Int)) ∧ (b[4]? = some true → t51 = .pointer (some ⟨G, j * 8, none⟩)) ∧ (b[5]? = some true → t52 = .pointer (some ⟨G, j * 8 + 5, none⟩)) ∧ (b[6]? = some true → t53 = .slice (some ⟨g, 0, none⟩) 4 sc) ∧ (b[7]? = some true → t54 = .pointer (some ⟨C, 2, none⟩)) ∧ (b[8]? = some true → t55 = .int .i64 (l : Int)) ∧ (b[9]? = some true → t56 = .pointer (some ⟨g, l * 5, none⟩)) ∧ (b[10]? = some true → t57 = .agg #[.int .i64 xt, .int .i64 xv, .bool xr, .bool xw, .bool xk]) ∧ (b[11]? = some true → b[12]? = some false → ∃ X : Nat, t7 = .pointer (some ⟨X, 0, none⟩) ∧ wc.heap.size ≤ X ∧ u.heap[X]? = some (.cells #[.int .i64 0, .int .i64 0, .bool false, .bool false, .bool false] 38 (0, 0))) ∧ (b[12]? = some true → ∃ X : Nat, t7 = .pointer (some ⟨X, 0, none⟩) ∧ wc.heap.size ≤ X ∧ u.heap[X]? = some (.cells #[.int .i64 xt, .int .i64 xv, .bool xr, .bool xw, .bool xk] 38 (0, 0)))) ?h0_1 ⟨?o1_0, ?o1_1, ?o1_2, ?o1_3, ?o1_4, ?o1_5, ?o1_6, ?o1_7, ?o1_8, ?o1_9, ?o1_10, ?o1_11, ?o1_12, trivial⟩ ?hend_1
          case h0_1 => exact ⟨u7, u47, u48, u49, u50, u51, u52, u53, u54, u55, u56, u57, rfl, (Below.refl _ _).drew, by simp, by simp, by simp, by simp, by simp, by simp, by simp, by simp, by simp, by simp, by simp, by simp, by simp⟩
          case o1_0 =>
            rintro b ac u hbl hbi hcl he ⟨t7, t47, t48, t49, t50, t51, t52, t53, t54, t55, t56, t57, rfl, hk, g0, g1, g2, g3, g4, g5, g6, g7, g8, g9, g10, g11, g12⟩ K hK
            have hla := last_false (L := 12) hcl hbl rfl (by kernel_rfl) hbi
            clear he
            go_simp
            exact hK _ _ ⟨_, _, _, _, _, _, _, _, _, _, _, _, rfl, hk, fun _ => rfl, fun h => g1 (by simpa using h), fun h => g2 (by simpa using h), fun h => g3 (by simpa using h), fun h => g4 (by simpa using h), fun h => g5 (by simpa using h), fun h => g6 (by simpa using h), fun h => g7 (by simpa using h), fun h => g8 (by simpa using h), fun h => g9 (by simpa using h), fun h => g10 (by simpa using h), fun h _ => (fun g => g) (g11 (by simpa using h) hla), fun h => (fun g => by simp [hla] at h) (g12 (by simpa using h))⟩
          case o1_1 =>
            rintro b ac u hbl hbi hcl he ⟨t7, t47, t48, t49, t50, t51, t52, t53, t54, t55, t56, t57, rfl, hk, g0, g1, g2, g3, g4, g5, g6, g7, g8, g9, g10, g11, g12⟩ K hK
            have hla := last_false (L := 12) hcl hbl rfl (by kernel_rfl) hbi
            clear he
            go_simp
            exact hK _ _ ⟨_, _, _, _, _, _, _, _, _, _, _, _, rfl, hk, fun h => g0 (by simpa using h), fun _ => rfl, fun h => g2 (by simpa using h), fun h => g3 (by simpa using h), fun h => g4 (by simpa using h), fun h => g5 (by simpa using h), fun h => g6 (by simpa using h), fun h => g7 (by simpa using h), fun h => g8 (by simpa using h), fun h => g9 (by simpa using h), fun h => g10 (by simpa using h), fun h _ => (fun g => g) (g11 (by simpa using h) hla), fun h => (fun g => by simp [hla] at h) (g12 (by simpa using h))⟩
          case o1_2 =>
            rintro b ac u hbl hbi hcl he ⟨t7, t47, t48, t49, t50, t51, t52, t53, t54, t55, t56, t57, rfl, hk, g0, g1, g2, g3, g4, g5, g6, g7, g8, g9, g10, g11, g12⟩ K hK
            have hla := last_false (L := 12) hcl hbl rfl (by kernel_rfl) hbi
            have p1 : b[1]? = some true := by simp [Region.binds] at he; simp [he]
            obtain rfl := g1 p1
            clear he
            have cC := (own_cells (own_below hk hC)).1
            have fC := (own_cells (own_below hk hC)).2
            go_simp
            exact hK _ _ ⟨_, _, _, _, _, _, _, _, _, _, _, _, rfl, hk, fun h => g0 (by simpa using h), fun h => g1 (by simpa using h), fun _ => rfl, fun h => g3 (by simpa using h), fun h => g4 (by simpa using h), fun h => g5 (by simpa using h), fun h => g6 (by simpa using h), fun h => g7 (by simpa using h), fun h => g8 (by simpa using h), fun h => g9 (by simpa using h), fun h => g10 (by simpa using h), fun h _ => (fun g => g) (g11 (by simpa using h) hla), fun h => (fun g => by simp [hla] at h) (g12 (by simpa using h))⟩
          case o1_3 =>
            rintro b ac u hbl hbi hcl he ⟨t7, t47, t48, t49, t50, t51, t52, t53, t54, t55, t56, t57, rfl, hk, g0, g1, g2, g3, g4, g5, g6, g7, g8, g9, g10, g11, g12⟩ K hK
            have hla := last_false (L := 12) hcl hbl rfl (by kernel_rfl) hbi
            have p2 : b[2]? = some true := by simp [Region.binds] at he; simp [he]
            obtain rfl := g2 p2
            clear he
            go_simp
            exact hK _ _ ⟨_, _, _, _, _, _, _, _, _, _, _, _, rfl, hk, fun h => g0 (by simpa using h), fun h => g1 (by simpa using h), fun h => g2 (by simpa using h), fun _ => rfl, fun h => g4 (by simpa using h), fun h => g5 (by simpa using h), fun h => g6 (by simpa using h), fun h => g7 (by simpa using h), fun h => g8 (by simpa using h), fun h => g9 (by simpa using h), fun h => g10 (by simpa using h), fun h _ => (fun g => g) (g11 (by simpa using h) hla), fun h => (fun g => by simp [hla] at h) (g12 (by simpa using h))⟩
          case o1_4 =>
            rintro b ac u hbl hbi hcl he ⟨t7, t47, t48, t49, t50, t51, t52, t53, t54, t55, t56, t57, rfl, hk, g0, g1, g2, g3, g4, g5, g6, g7, g8, g9, g10, g11, g12⟩ K hK
            have hla := last_false (L := 12) hcl hbl rfl (by kernel_rfl) hbi
            have p0 : b[0]? = some true := by simp [Region.binds] at he; simp [he]
            have p3 : b[3]? = some true := by simp [Region.binds] at he; simp [he]
            obtain rfl := g0 p0
            obtain rfl := g3 p3
            clear he
            go_simp
            exact hK _ _ ⟨_, _, _, _, _, _, _, _, _, _, _, _, rfl, hk, fun h => g0 (by simpa using h), fun h => g1 (by simpa using h), fun h => g2 (by simpa using h), fun h => g3 (by simpa using h), fun _ => rfl, fun h => g5 (by simpa using h), fun h => g6 (by simpa using h), fun h => g7 (by simpa using h), fun h => g8 (by simpa using h), fun h => g9 (by simpa using h), fun h => g10 (by simpa using h), fun h _ => (fun g => g) (g11 (by simpa using h) hla), fun h => (fun g => by simp [hla] at h) (g12 (by simpa using h))⟩
          case o1_5 =>
            rintro b ac u hbl hbi hcl he ⟨t7, t47, t48, t49, t50, t51, t52, t53, t54, t55, t56, t57, rfl, hk, g0, g1, g2, g3, g4, g5, g6, g7, g8, g9, g10, g11, g12⟩ K hK
            have hla := last_false (L := 12) hcl hbl rfl (by kernel_rfl) hbi
            have p4 : b[4]? = some true := by simp [Region.binds] at he; simp [he]
            obtain rfl := g4 p4
            clear he
            go_simp
            exact hK _ _ ⟨_, _, _, _, _, _, _, _, _, _, _, _, rfl, hk, fun h => g0 (by simpa using h), fun h => g1 (by simpa using h), fun h => g2 (by simpa using h), fun h => g3 (by simpa using h), fun h => g4 (by simpa using h), fun _ => rfl, fun h => g6 (by simpa using h), fun h => g7 (by simpa using h), fun h => g8 (by simpa using h), fun h => g9 (by simpa using h), fun h => g10 (by simpa using h), fun h _ => (fun g => g) (g11 (by simpa using h) hla), fun h => (fun g => by simp [hla] at h) (g12 (by simpa using h))⟩
          case o1_6 =>
            rintro b ac u hbl hbi hcl he ⟨t7, t47, t48, t49, t50, t51, t52, t53, t54, t55, t56, t57, rfl, hk, g0, g1, g2, g3, g4, g5, g6, g7, g8, g9, g10, g11, g12⟩ K hK
            have hla := last_false (L := 12) hcl hbl rfl (by kernel_rfl) hbi
            have p5 : b[5]? = some true := by simp [Region.binds] at he; simp [he]
            obtain rfl := g5 p5
            clear he
            have cS := (hk.cell (p := ⟨G, j * 8 + 5, none⟩) hGlt).trans cA5
            go_simp
            exact hK _ _ ⟨_, _, _, _, _, _, _, _, _, _, _, _, rfl, hk, fun h => g0 (by simpa using h), fun h => g1 (by simpa using h), fun h => g2 (by simpa using h), fun h => g3 (by simpa using h), fun h => g4 (by simpa using h), fun h => g5 (by simpa using h), fun _ => rfl, fun h => g7 (by simpa using h), fun h => g8 (by simpa using h), fun h => g9 (by simpa using h), fun h => g10 (by simpa using h), fun h _ => (fun g => g) (g11 (by simpa using h) hla), fun h => (fun g => by simp [hla] at h) (g12 (by simpa using h))⟩
          case o1_7 =>
            rintro b ac u hbl hbi hcl he ⟨t7, t47, t48, t49, t50, t51, t52, t53, t54, t55, t56, t57, rfl, hk, g0, g1, g2, g3, g4, g5, g6, g7, g8, g9, g10, g11, g12⟩ K hK
            have hla := last_false (L := 12) hcl hbl rfl (by kernel_rfl) hbi
            clear he
            go_simp
            exact hK _ _ ⟨_, _, _, _, _, _, _, _, _, _, _, _, rfl, hk, fun h => g0 (by simpa using h), fun h => g1 (by simpa using h), fun h => g2 (by simpa using h), fun h => g3 (by simpa using h), fun h => g4 (by simpa using h), fun h => g5 (by simpa using h), fun h => g6 (by simpa using h), fun _ => rfl, fun h => g8 (by simpa using h), fun h => g9 (by simpa using h), fun h => g10 (by simpa using h), fun h _ => (fun g => g) (g11 (by simpa using h) hla), fun h => (fun g => by simp [hla] at h) (g12 (by simpa using h))⟩
          case o1_8 =>
            rintro b ac u hbl hbi hcl he ⟨t7, t47, t48, t49, t50, t51, t52, t53, t54, t55, t56, t57, rfl, hk, g0, g1, g2, g3, g4, g5, g6, g7, g8, g9, g10, g11, g12⟩ K hK
            have hla := last_false (L := 12) hcl hbl rfl (by kernel_rfl) hbi
            have p7 : b[7]? = some true := by simp [Region.binds] at he; simp [he]
            obtain rfl := g7 p7
            clear he
            have cC := (own_cells (own_below hk hC)).1
            have fC := (own_cells (own_below hk hC)).2
            go_simp
            exact hK _ _ ⟨_, _, _, _, _, _, _, _, _, _, _, _, rfl, hk, fun h => g0 (by simpa using h), fun h => g1 (by simpa using h), fun h => g2 (by simpa using h), fun h => g3 (by simpa using h), fun h => g4 (by simpa using h), fun h => g5 (by simpa using h), fun h => g6 (by simpa using h), fun h => g7 (by simpa using h), fun _ => rfl, fun h => g9 (by simpa using h), fun h => g10 (by simpa using h), fun h _ => (fun g => g) (g11 (by simpa using h) hla), fun h => (fun g => by simp [hla] at h) (g12 (by simpa using h))⟩
          case o1_9 =>
            rintro b ac u hbl hbi hcl he ⟨t7, t47, t48, t49, t50, t51, t52, t53, t54, t55, t56, t57, rfl, hk, g0, g1, g2, g3, g4, g5, g6, g7, g8, g9, g10, g11, g12⟩ K hK
            have hla := last_false (L := 12) hcl hbl rfl (by kernel_rfl) hbi
            have p6 : b[6]? = some true := by simp [Region.binds] at he; simp [he]
            have p8 : b[8]? = some true := by simp [Region.binds] at he; simp [he]
            obtain rfl := g6 p6
            obtain rfl := g8 p8
            clear he
            have hl4' : (l : Int) < 4 := by omega
            go_simp
            exact hK _ _ ⟨_, _, _, _, _, _, _, _, _, _, _, _, rfl, hk, fun h => g0 (by simpa using h), fun h => g1 (by simpa using h), fun h => g2 (by simpa using h), fun h => g3 (by simpa using h), fun h => g4 (by simpa using h), fun h => g5 (by simpa using h), fun h => g6 (by simpa using h), fun h => g7 (by simpa using h), fun h => g8 (by simpa using h), fun _ => rfl, fun h => g10 (by simpa using h), fun h _ => (fun g => g) (g11 (by simpa using h) hla), fun h => (fun g => by simp [hla] at h) (g12 (by simpa using h))⟩
          case o1_10 =>
            rintro b ac u hbl hbi hcl he ⟨t7, t47, t48, t49, t50, t51, t52, t53, t54, t55, t56, t57, rfl, hk, g0, g1, g2, g3, g4, g5, g6, g7, g8, g9, g10, g11, g12⟩ K hK
            have hla := last_false (L := 12) hcl hbl rfl (by kernel_rfl) hbi
            have p9 : b[9]? = some true := by simp [Region.binds] at he; simp [he]
            obtain rfl := g9 p9
            clear he
            obtain ⟨x0, x1, x2, x3, x4⟩ := FX u hk
            go_simp
            exact hK _ _ ⟨_, _, _, _, _, _, _, _, _, _, _, _, rfl, hk, fun h => g0 (by simpa using h), fun h => g1 (by simpa using h), fun h => g2 (by simpa using h), fun h => g3 (by simpa using h), fun h => g4 (by simpa using h), fun h => g5 (by simpa using h), fun h => g6 (by simpa using h), fun h => g7 (by simpa using h), fun h => g8 (by simpa using h), fun h => g9 (by simpa using h), fun _ => rfl, fun h _ => (fun g => g) (g11 (by simpa using h) hla), fun h => (fun g => by simp [hla] at h) (g12 (by simpa using h))⟩
          case o1_11 =>
            rintro b ac u hbl hbi hcl he ⟨t7, t47, t48, t49, t50, t51, t52, t53, t54, t55, t56, t57, rfl, hk, g0, g1, g2, g3, g4, g5, g6, g7, g8, g9, g10, g11, g12⟩ K hK
            have hla := last_false (L := 12) hcl hbl rfl (by kernel_rfl) hbi
            clear he
            go_simp
            have hk' := hk.alloc hk.size (.cells #[.int .i64 0, .int .i64 0, .bool false, .bool false, .bool false] 38)
            exact hK _ _ ⟨_, _, _, _, _, _, _, _, _, _, _, _, rfl, hk', fun h => g0 (by simpa using h), fun h => g1 (by simpa using h), fun h => g2 (by simpa using h), fun h => g3 (by simpa using h), fun h => g4 (by simpa using h), fun h => g5 (by simpa using h), fun h => g6 (by simpa using h), fun h => g7 (by simpa using h), fun h => g8 (by simpa using h), fun h => g9 (by simpa using h), fun h => g10 (by simpa using h), fun _ _ => ⟨_, rfl, hk.size, own_new _ _⟩, fun h => (fun g => by simp [hla] at h) (g12 (by simpa using h))⟩
          case o1_12 =>
            rintro b ac u hbl hbi hcl he ⟨t7, t47, t48, t49, t50, t51, t52, t53, t54, t55, t56, t57, rfl, hk, g0, g1, g2, g3, g4, g5, g6, g7, g8, g9, g10, g11, g12⟩ K hK
            have hla := hbi
            have p11 : b[11]? = some true := by simp [Region.binds] at he; simp [he]
            have p10 : b[10]? = some true := by simp [Region.binds] at he; simp [he]
            obtain ⟨X, rfl, hXW, hX⟩ := g11 p11 hla
            obtain rfl := g10 p10
            clear he
            have cX := (own_cells hX).1
            have fX := (own_cells hX).2
            go_simp
            exact hK _ _ ⟨_, _, _, _, _, _, _, _, _, _, _, _, rfl, below_setR hk hXW 0 ⟨xt, xv, xr, xw, xk⟩, fun h => g0 (by simpa using h), fun h => g1 (by simpa using h), fun h => g2 (by simpa using h), fun h => g3 (by simpa using h), fun h => g4 (by simpa using h), fun h => g5 (by simpa using h), fun h => g6 (by simpa using h), fun h => g7 (by simpa using h), fun h => g8 (by simpa using h), fun h => g9 (by simpa using h), fun h => g10 (by simpa using h), fun _ h => (by simp [hbl] at h), fun _ => ⟨X, rfl, hXW, own_setR hX 0 ⟨xt, xv, xr, xw, xk⟩⟩⟩
          rintro ac u ⟨t7, t47, t48, t49, t50, t51, t52, t53, t54, t55, t56, t57, rfl, hk, g0, g1, g2, g3, g4, g5, g6, g7, g8, g9, g10, g11, g12⟩
          replace g0 := g0 (by simp)
          replace g1 := g1 (by simp)
          replace g2 := g2 (by simp)
          replace g3 := g3 (by simp)
          replace g4 := g4 (by simp)
          replace g5 := g5 (by simp)
          replace g6 := g6 (by simp)
          replace g7 := g7 (by simp)
          replace g8 := g8 (by simp)
          replace g9 := g9 (by simp)
          replace g10 := g10 (by simp)
          clear g11
          replace g12 := g12 (by simp)
          obtain ⟨X, rfl, hXW, hX⟩ := g12
          have hS := HS.out.below hk
          replace hC := own_below hk hC
          clear hk hXW g0 g1 g2 g3 g4 g5 g6 g7 g8 g9 g10 FX HS cA5 hGlt hgb
          obtain ⟨cC, fC⟩ := own_cells hC
          have HS := hid hS
          clear hS
          go_upto_region 6 with fail
          clear cC fC
          refine wp_region_quiet_below (by kernel_rfl) (by kernel_rfl) ?_
          cases d1 : (k == 3)
          case true =>
            iterate 3 ((with_reducible apply qval); (case hw => exact rfl); (case h => (intro v hu; obtain ⟨_, _⟩ := own_cells (own_below hu hX); obtain ⟨_, _⟩ := own_cells (own_below hu hC); go_simp; exact rfl)); (intro K hK; go_simp; (with_reducible refine hK _ ?_); clear hK K))
            (refine qval_skips (.bool true) 17 rfl (by kernel_rfl) ?_ ?_; (intro v hu; go_simp); (intro K hK; simp only [skipAct, List.drop_succ_cons, List.drop_zero] at hK ⊢; go_simp; (with_reducible refine hK _ ?_); clear hK K))
            iterate 1 ((with_reducible apply qval); (case hw => exact rfl); (case h => (intro v hu; obtain ⟨_, _⟩ := own_cells (own_below hu hX); obtain ⟨_, _⟩ := own_cells (own_below hu hC); go_simp; exact rfl)); (intro K hK; go_simp; (with_reducible refine hK _ ?_); clear hK K))
            refine wpQuiet_nil ?_
            intro v hu
            go_wp2
            go_meet
            exact (HS.out.below hu).more (by omega)
          case false =>
            have CX := hid (fun v => l6In_b xt 1 n v)
            cases d2 : inB xt 1 n
            case false =>
              rw [d2] at CX
              iterate 8 ((with_reducible apply qval); (case hw => exact rfl); (case h => (intro v hu; obtain ⟨_, _⟩ := own_cells (own_below hu hX); obtain ⟨_, _⟩ := own_cells (own_below hu hC); go_simp; exact rfl)); (intro K hK; go_simp; (with_reducible refine hK _ ?_); clear hK K))
              ((with_reducible apply qcall); (case hw => exact rfl); (case h => (intro v hu; go_simp; exact ⟨rfl, rfl⟩)); (case hc => (intro v hu; with_reducible exact Calls.in_below hu (CX.out _))); (intro K hK; go_simp; (with_reducible refine hK _ ?_); clear hK K))
              (refine qval_skips (.bool false) 10 rfl (by kernel_rfl) ?_ ?_; (intro v hu; go_simp); (intro K hK; simp only [skipAct, List.drop_succ_cons, List.drop_zero] at hK ⊢; go_simp; (with_reducible refine hK _ ?_); clear hK K))
              iterate 2 ((with_reducible apply qval); (case hw => exact rfl); (case h => (intro v hu; obtain ⟨_, _⟩ := own_cells (own_below hu hX); obtain ⟨_, _⟩ := own_cells (own_below hu hC); go_simp; exact rfl)); (intro K hK; go_simp; (with_reducible refine hK _ ?_); clear hK K))
              refine wpQuiet_nil ?_
              intro v hu
              have hS := HS.out.below hu
              clear hu hX hC HS
              go_wp2_with fail
              have HS := hid hS
              obtain ⟨_, _, ⟨k, r, aa, bb, mm, e1, e2, e3, e4, e5, e6, hC⟩, _, q, hq1, hq2, r1⟩ := hS
              refine (pick_any _ _ _ _ r1 (by omega) (by omega)).mono ?_
              rintro e w6 ⟨m6, rfl, h60, h61, _, r6, k6⟩
              replace h61 := h61 (by omega)
              replace hC := own_kept k6 (by omega) hC
              have hS := HS.out.pick (hi' := p + 30 + 4 * kk + 2) hx hxC lx k6 (show p ≤ q + 1 by omega) (by omega) r6
              clear k6 r1 r6 HS
              obtain ⟨cC, fC⟩ := own_cells hC
              replace hS := hS.put2 hxC (by omega) (by omega) m6 (by omega) (by omega)
              go_wp2_with fail
              clear cC fC hC
              have HS := hid hS
              obtain ⟨_, _, ⟨k, r, aa, bb, mm, e1, e2, e3, e4, e5, e6, hC⟩, _, q, hq1, hq2, r1⟩ := hS
              refine (pick_any _ _ _ _ r1 (by omega) (by omega)).mono ?_
              rintro e w7 ⟨m7, rfl, h70, h71, _, r7, k7⟩
              replace h71 := h71 (by omega)
              replace hC := own_kept k7 (by omega) hC
              have hS := HS.out.pick (hi' := p + 30 + 4 * kk + 3) hx hxC lx k7 (show p ≤ q + 1 by omega) (by omega) r7
              clear k7 r1 r7 HS
              obtain ⟨cC, fC⟩ := own_cells hC
              replace hS := hS.put0 hxC (by omega) (by omega) (1 + m7) (by omega) (by omega)
              go_wp2_with fail
              go_roundw
              case rel => exact ⟨kk + 1, by go_num, by omega, hS.more (by omega)⟩
              case measure => simp [intOf]; omega
            case true =>
              rw [d2] at CX
              obtain ⟨i, rfl, hi⟩ := inB_nat d2
              obtain ⟨hTb, _, ⟨k', _, _, _, _, e1', e2', _, _, _, _, hC'⟩, _⟩ := HS.out
              obtain ⟨_, _, _, hv, _, hG, _⟩ := hTb.row (by omega)
              cases hv
              have hGlt := own_lt hG
              obtain ⟨⟨z0, z1, z2, z3, z4, sa', sn', sc'', qa, qn, qc, z5⟩, _, hA⟩ := hTb.get (j := i) (by omega)
              obtain ⟨cA0, _, _, _, _, _, _, _⟩ := hA
              dsimp only at cA0
              have hwi := wr_small hi (show n ≤ 9223372036854775807 by omega)
              have FK := fun v (hv : Below u.heap.size u v) => (hv.cell (p := ⟨G, i * 8, none⟩) hGlt).trans cA0
              have CKd := hid (fun v => l11Kind_any k z0 v (by simp [inB]; omega) d1)
              obtain ⟨B, eB⟩ : ∃ b, b = (needKinds k).any (· == z0) := ⟨_, rfl⟩
              rw [← eB] at CKd
              clear eB hTb hC' hG hGlt cA0
              cases B
              case true =>
                iterate 8 ((with_reducible apply qval); (case hw => exact rfl); (case h => (intro v hu; obtain ⟨_, _⟩ := own_cells (own_below hu hX); obtain ⟨_, _⟩ := own_cells (own_below hu hC); have := FK v hu; go_simp; exact rfl)); (intro K hK; go_simp; (with_reducible refine hK _ ?_); clear hK K))
                ((with_reducible apply qcall); (case hw => exact rfl); (case h => (intro v hu; go_simp; exact ⟨rfl, rfl⟩)); (case hc => (intro v hu; with_reducible exact Calls.in_below hu (CX.out _))); (intro K hK; go_simp; (with_reducible refine hK _ ?_); clear hK K))
                iterate 1 ((with_reducible apply qval); (case hw => exact rfl); (case h => (intro v hu; obtain ⟨_, _⟩ := own_cells (own_below hu hX); obtain ⟨_, _⟩ := own_cells (own_below hu hC); have := FK v hu; go_simp; exact rfl)); (intro K hK; go_simp; (with_reducible refine hK _ ?_); clear hK K))
                iterate 9 ((with_reducible apply qval); (case hw => exact rfl); (case h => (intro v hu; obtain ⟨_, _⟩ := own_cells (own_below hu hX); obtain ⟨_, _⟩ := own_cells (own_below hu hC); have := FK v hu; go_simp; exact rfl)); (intro K hK; go_simp; (with_reducible refine hK _ ?_); clear hK K))
                ((with_reducible apply qcall); (case hw => exact rfl); (case h => (intro v hu; go_simp; exact ⟨rfl, rfl⟩)); (case hc => (intro v hu; with_reducible exact Calls.in_below hu (CKd.out _))); (intro K hK; go_simp; (with_reducible refine hK _ ?_); clear hK K))
                iterate 2 ((with_reducible apply qval); (case hw => exact rfl); (case h => (intro v hu; obtain ⟨_, _⟩ := own_cells (own_below hu hX); obtain ⟨_, _⟩ := own_cells (own_below hu hC); have := FK v hu; go_simp; exact rfl)); (intro K hK; go_simp; (with_reducible refine hK _ ?_); clear hK K))
                refine wpQuiet_nil ?_
                intro v hu
                go_wp2
                go_meet
                exact (HS.out.below hu).more (by omega)
              case false =>
                iterate 8 ((with_reducible apply qval); (case hw => exact rfl); (case h => (intro v hu; obtain ⟨_, _⟩ := own_cells (own_below hu hX); obtain ⟨_, _⟩ := own_cells (own_below hu hC); have := FK v hu; go_simp; exact rfl)); (intro K hK; go_simp; (with_reducible refine hK _ ?_); clear hK K))
                ((with_reducible apply qcall); (case hw => exact rfl); (case h => (intro v hu; go_simp; exact ⟨rfl, rfl⟩)); (case hc => (intro v hu; with_reducible exact Calls.in_below hu (CX.out _))); (intro K hK; go_simp; (with_reducible refine hK _ ?_); clear hK K))
                iterate 1 ((with_reducible apply qval); (case hw => exact rfl); (case h => (intro v hu; obtain ⟨_, _⟩ := own_cells (own_below hu hX); obtain ⟨_, _⟩ := own_cells (own_below hu hC); have := FK v hu; go_simp; exact rfl)); (intro K hK; go_simp; (with_reducible refine hK _ ?_); clear hK K))
                iterate 9 ((with_reducible apply qval); (case hw => exact rfl); (case h => (intro v hu; obtain ⟨_, _⟩ := own_cells (own_below hu hX); obtain ⟨_, _⟩ := own_cells (own_below hu hC); have := FK v hu; go_simp; exact rfl)); (intro K hK; go_simp; (with_reducible refine hK _ ?_); clear hK K))
                ((with_reducible apply qcall); (case hw => exact rfl); (case h => (intro v hu; go_simp; exact ⟨rfl, rfl⟩)); (case hc => (intro v hu; with_reducible exact Calls.in_below hu (CKd.out _))); (intro K hK; go_simp; (with_reducible refine hK _ ?_); clear hK K))
                iterate 2 ((with_reducible apply qval); (case hw => exact rfl); (case h => (intro v hu; obtain ⟨_, _⟩ := own_cells (own_below hu hX); obtain ⟨_, _⟩ := own_cells (own_below hu hC); have := FK v hu; go_simp; exact rfl)); (intro K hK; go_simp; (with_reducible refine hK _ ?_); clear hK K))
                clear FK CKd CX
                refine wpQuiet_nil ?_
                intro v hu
                have hS := HS.out.below hu
                clear hu hX hC HS
                go_wp2_with fail
                have HS := hid hS
                obtain ⟨_, _, ⟨k, r, aa, bb, mm, e1, e2, e3, e4, e5, e6, hC⟩, _, q, hq1, hq2, r1⟩ := hS
                refine (pick_any _ _ _ _ r1 (by omega) (by omega)).mono ?_
                rintro e w6 ⟨m6, rfl, h60, h61, _, r6, k6⟩
                replace h61 := h61 (by omega)
                replace hC := own_kept k6 (by omega) hC
                have hS := HS.out.pick (hi' := p + 30 + 4 * kk + 2) hx hxC lx k6 (show p ≤ q + 1 by omega) (by omega) r6
                clear k6 r1 r6 HS
                obtain ⟨cC, fC⟩ := own_cells hC
                replace hS := hS.put2 hxC (by omega) (by omega) m6 (by omega) (by omega)
                go_wp2_with fail
                clear cC fC hC
                have HS := hid hS
                obtain ⟨_, _, ⟨k, r, aa, bb, mm, e1, e2, e3, e4, e5, e6, hC⟩, _, q, hq1, hq2, r1⟩ := hS
                refine (pick_any _ _ _ _ r1 (by omega) (by omega)).mono ?_
                rintro e w7 ⟨m7, rfl, h70, h71, _, r7, k7⟩
                replace h71 := h71 (by omega)
                replace hC := own_kept k7 (by omega) hC
                have hS := HS.out.pick (hi' := p + 30 + 4 * kk + 3) hx hxC lx k7 (show p ≤ q + 1 by omega) (by omega) r7
                clear k7 r1 r7 HS
                obtain ⟨cC, fC⟩ := own_cells hC
                replace hS := hS.put0 hxC (by omega) (by omega) (1 + m7) (by omega) (by omega)
                go_wp2_with fail
                go_roundw
                case rel => exact ⟨kk + 1, by go_num, by omega, hS.more (by omega)⟩
                case measure => simp [intOf]; omega
  case rest =>
    have hS := hcut
    clear hcut
    have HS := hid hS
    obtain ⟨_, _, _, _, q, hq1, hq2, r1⟩ := hS
    go_wp2_with fail
    refine (pick_any _ _ _ _ r1 (by omega) (by omega)).mono ?_
    rintro e w6 ⟨m, rfl, h60, h61, _, r6, k6⟩
    have hS := HS.out.pick (hi' := p + 61) hx hxC lx k6 (show p ≤ q + 1 by omega) (by omega) r6
    have zx6 : x < w6.heap.size := by obtain ⟨_, _, _, _, _, _, _, r⟩ := hS; exact r.lt
    clear k6 r1 r6 HS
    go_upto_block 2 with fail
    go_cut [7] from 89 to 112 (fun c wx => CEnd x w n C w.heap.size p (p + 62) wx)
    case first =>
      cases q0 : (m == 0)
      · cases q1 : (m == 1)
        · cases q2 : (m == 2)
          · go_wp2_with fail
            go_meet
            exact hS.end_ (by omega)
          · go_wp2_with fail
            have hO := own_new w6 (.cells #[.int .i64 (-1), .int .i64 100] 3)
            replace hS := hS.below ((Below.refl _ _).alloc (Nat.le_refl _) (.cells #[.int .i64 (-1), .int .i64 100] 3))
            have zO := own_lt hO
            have HS := hid hS
            obtain ⟨_, _, ⟨k, r, aa, bb, mm, e1, e2, e3, e4, e5, e6, hC⟩, _, q, hq1, hq2, r1⟩ := hS
            have zC := own_lt hC
            refine (pick_any _ _ _ _ r1 (by omega) (by omega)).mono ?_
            rintro e w7 ⟨m7, rfl, h70, h71, _, r7, k7⟩
            replace h71 := h71 (by omega)
            have hS := HS.out.pick (hi' := p + 62) hx hxC lx k7 (show p ≤ q + 1 by omega) (by omega) r7
            replace hC := own_kept k7 (by omega) hC
            replace hO := own_kept k7 (by omega) hO
            clear k7 r1 r7 HS
            obtain ⟨cO, fO⟩ := own_cells hO
            obtain ⟨cC, fC⟩ := own_cells hC
            obtain ⟨y, hy, _⟩ := pick_list [.int .i64 (-1), .int .i64 100] m7.toNat (fun _ => True) (by simp) (by simp; omega)
            go_wp2_with fail
            go_meet
            exact hS.fin4 (by omega) hxC (by omega) (by omega) y
        · go_wp2_with fail
          have hO := own_new w6 (.cells #[.int .i64 (-1), .int .i64 4] 3)
          replace hS := hS.below ((Below.refl _ _).alloc (Nat.le_refl _) (.cells #[.int .i64 (-1), .int .i64 4] 3))
          have zO := own_lt hO
          have HS := hid hS
          obtain ⟨_, _, ⟨k, r, aa, bb, mm, e1, e2, e3, e4, e5, e6, hC⟩, _, q, hq1, hq2, r1⟩ := hS
          have zC := own_lt hC
          refine (pick_any _ _ _ _ r1 (by omega) (by omega)).mono ?_
          rintro e w7 ⟨m7, rfl, h70, h71, _, r7, k7⟩
          replace h71 := h71 (by omega)
          have hS := HS.out.pick (hi' := p + 62) hx hxC lx k7 (show p ≤ q + 1 by omega) (by omega) r7
          replace hC := own_kept k7 (by omega) hC
          replace hO := own_kept k7 (by omega) hO
          clear k7 r1 r7 HS
          obtain ⟨cO, fO⟩ := own_cells hO
          obtain ⟨cC, fC⟩ := own_cells hC
          obtain ⟨y, hy, _⟩ := pick_list [.int .i64 (-1), .int .i64 4] m7.toNat (fun _ => True) (by simp) (by simp; omega)
          go_wp2_with fail
          go_meet
          exact hS.fin2 (by omega) hxC (by omega) (by omega) y
      · go_wp2_with fail
        have hO := own_new w6 (.cells #[.int .i64 0, .int .i64 10] 3)
        replace hS := hS.below ((Below.refl _ _).alloc (Nat.le_refl _) (.cells #[.int .i64 0, .int .i64 10] 3))
        have zO := own_lt hO
        have HS := hid hS
        obtain ⟨_, _, ⟨k, r, aa, bb, mm, e1, e2, e3, e4, e5, e6, hC⟩, _, q, hq1, hq2, r1⟩ := hS
        have zC := own_lt hC
        refine (pick_any _ _ _ _ r1 (by omega) (by omega)).mono ?_
        rintro e w7 ⟨m7, rfl, h70, h71, _, r7, k7⟩
        replace h71 := h71 (by omega)
        have hS := HS.out.pick (hi' := p + 62) hx hxC lx k7 (show p ≤ q + 1 by omega) (by omega) r7
        replace hC := own_kept k7 (by omega) hC
        replace hO := own_kept k7 (by omega) hO
        clear k7 r1 r7 HS
        obtain ⟨cO, fO⟩ := own_cells hO
        obtain ⟨cC, fC⟩ := own_cells hC
        obtain ⟨y, hy, _⟩ := pick_list [.int .i64 0, .int .i64 10] m7.toNat (fun _ => True) (by simp) (by simp; omega)
        go_wp2_with fail
        go_meet
        exact hS.fin0 (by omega) hxC (by omega) (by omega) y
    case rest =>
      obtain ⟨hk0, ⟨k, r, aa, bb, mm, e1, e2, hC⟩, hR, q, hq1, hq2, r1⟩ := hcut
      clear hS
      obtain ⟨cC, fC⟩ := own_cells hC
      obtain ⟨cR, fR⟩ := own_cells hR
      go_wp2_with fail
      have hE := own_set (own_set (own_set (own_set (own_set hR 0 (.int .i64 k)) 1 (.int .i64 r)) 2 (.int .i64 aa)) 3 (.int .i64 bb)) 4 (.int .i64 mm)
      obtain ⟨ocE, _⟩ := own_cells hE
      refine bodyPost_ret (v := .agg #[.int .i64 k, .int .i64 r, .int .i64 aa, .int .i64 bb, .int .i64 mm]) ?_ rfl ?_
      · clear cC fC cR fR
        simp only [results, Tryd.results23]
        go_simp
      · refine ⟨k, r, aa, bb, mm, rfl, e1, e2, q, hq1, by omega, ?_, ?_⟩
        · exact Rd.setCell (Rd.setCell (Rd.setCell (Rd.setCell (Rd.setCell r1 (a := ⟨w.heap.size, 0, none⟩) lx _) (a := ⟨w.heap.size, 1, none⟩) lx _) (a := ⟨w.heap.size, 2, none⟩) lx _) (a := ⟨w.heap.size, 3, none⟩) lx _) (a := ⟨w.heap.size, 4, none⟩) lx _
        · exact ((((hk0.setCell_new (p := ⟨w.heap.size, 0, none⟩) (Nat.le_refl _) _).setCell_new (p := ⟨w.heap.size, 1, none⟩) (Nat.le_refl _) _).setCell_new (p := ⟨w.heap.size, 2, none⟩) (Nat.le_refl _) _).setCell_new (p := ⟨w.heap.size, 3, none⟩) (Nat.le_refl _) _).setCell_new (p := ⟨w.heap.size, 4, none⟩) (Nat.le_refl _) _
/-- What a draw of a table and a call leaves, in plain data. -/
def TabCall (w : World) (e : Ending) (w' : World) : Prop :=
  ∃ (ts : List Th) (a : Option Addr) (c : Nat) (k r aa b m : Int), e = .returned (.tuple #[.slice a ts.length c, .agg #[.int .i64 k, .int .i64 r, .int .i64 aa, .int .i64 b, .int .i64 m]]) ∧ 3 ≤ ts.length ∧ ts.length ≤ 8 ∧ 1 ≤ r ∧ r ≤ ts.length ∧ RowT w' a ts ∧ Below w.heap.size w w'
set_option maxHeartbeats 4000000 in
set_option maxRecDepth 100000 in
theorem drawCheckCall_any (a : Option Addr) (len cap : Nat) (z : List Int) (w : World) (hr : IsRow .u8 w a len cap z) :
    Calls Tryd.prog 8 #[.slice a len cap] w (TabCall w) := by
  have hR := own_new w (.cells #[.int .i64 0, .int .i64 0, .int .i64 0, .int .i64 0, .int .i64 0] 25)
  go_enter Tryd.func8, Tryd.ntmps8
  go_wp2_with fail
  refine (l6Open_any _ _ _ _ _ (hr.alloc _)).mono ?_
  rintro e w0 ⟨x, hx0, rfl, r0, b0⟩
  have z0 := b0.size
  try simp at z0
  have lx0 := r0.lt
  try simp at hx0
  have z0_0 : w.heap.size < w0.heap.size := by omega
  have y0_0 : ¬ w.heap.size = x := by omega
  have t0 : Kept x w w0 := by
    refine Kept.of_below ?_ b0
    · repeat (first | exact Kept.refl _ _ | refine Kept.alloc ?_ _)
  obtain ⟨c0, f0⟩ := bcell b0
  replace hR := own_below b0 hR
  clear b0 c0 f0
  go_wp2_with fail
  refine (l71Fine_any _ _ _ r0 (by omega) (by omega)).mono ?_
  rintro e w1 ⟨ta, n, c, rfl, h3, h8, hTb, q, hq1, hq2, r1, k1⟩
  replace t0 := t0.trans k1
  replace hR := own_kept k1 (by omega) hR
  clear k1
  go_wp2_with fail
  refine (l71Call_any _ w0.heap.size _ _ _ _ _ r1 (by omega) (by omega) hTb (by omega) (by omega) (by omega)).mono ?_
  rintro e w2 ⟨k, r, aa, bb, mm, rfl, hr1, hr2, q2, hq3, hq4, r2, k2⟩
  replace t0 := t0.trans k2
  replace hR := own_kept k2 (by omega) hR
  replace hTb := hTb.kept k2 (by omega)
  clear k2 r1
  obtain ⟨cR, fR⟩ := own_cells hR
  go_wp2_with fail
  have hE := own_set (own_set (own_set (own_set (own_set hR 0 (.int .i64 k)) 1 (.int .i64 r)) 2 (.int .i64 aa)) 3 (.int .i64 bb)) 4 (.int .i64 mm)
  obtain ⟨ocE, _⟩ := own_cells hE
  refine bodyPost_ret (v := .tuple #[.slice ta n c, .agg #[.int .i64 k, .int .i64 r, .int .i64 aa, .int .i64 bb, .int .i64 mm]]) ?_ rfl ?_
  · clear cR fR
    simp only [results, Tryd.results8]
    go_simp
  · replace hTb := hTb.setC hR 0 (.int .i64 k)
    replace hR := own_set hR 0 (.int .i64 k)
    replace hTb := hTb.setC hR 1 (.int .i64 r)
    replace hR := own_set hR 1 (.int .i64 r)
    replace hTb := hTb.setC hR 2 (.int .i64 aa)
    replace hR := own_set hR 2 (.int .i64 aa)
    replace hTb := hTb.setC hR 3 (.int .i64 bb)
    replace hR := own_set hR 3 (.int .i64 bb)
    replace hTb := hTb.setC hR 4 (.int .i64 mm)
    obtain ⟨ts, hl, _, hT⟩ := hTb.open
    subst hl
    have hb := (((((t0.setCell_new (p := ⟨w.heap.size, 0, none⟩) (Nat.le_refl _) (.int .i64 k)).setCell_new (p := ⟨w.heap.size, 1, none⟩) (Nat.le_refl _) (.int .i64 r)).setCell_new (p := ⟨w.heap.size, 2, none⟩) (Nat.le_refl _) (.int .i64 aa)).setCell_new (p := ⟨w.heap.size, 3, none⟩) (Nat.le_refl _) (.int .i64 bb)).setCell_new (p := ⟨w.heap.size, 4, none⟩) (Nat.le_refl _) (.int .i64 mm)).below' (by omega)
    exact ⟨ts, ta, c, k, r, aa, bb, mm, rfl, h3, h8, hr1, hr2, hT, hb⟩
end Go.Proofs.YtcgmnpppdoadhaaDoor
