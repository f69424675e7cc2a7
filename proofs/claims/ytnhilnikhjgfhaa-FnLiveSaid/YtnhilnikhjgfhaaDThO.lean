/- The drawn thing of the law: a contract of the reference's DrawThingOk. No condition but that the code is a row of bytes. -/
import Derived.Test.YtnhilnikhjgfhaaDTh
import Derived.Test.YtnhilnikhjgfhaaDrawRgt
namespace Go.Proofs.Ytnhilnikhjgfhaa
open Go.RowKit
set_option linter.unusedVariables false
set_option linter.unusedSimpArgs false

/-- Where the reader is, as long as operation j draws at most ten. -/
def RdC10 (x : Nat) (p : Int) (b : List Bool) (j : Nat) (u : World) : Prop := ∃ q : Int, p ≤ q ∧ (b[j]? = some false → q ≤ p) ∧ q ≤ p + 10 ∧ Rd u x q
theorem RdC10.start {x : Nat} {p : Int} {b : List Bool} {j : Nat} {u : World} (h : Rd u x p) : RdC10 x p b j u := ⟨p, by omega, fun _ => by omega, by omega, h⟩
theorem RdC10.other {x : Nat} {p : Int} {b : List Bool} {j : Nat} {u u' : World} {i : Nat} (h : RdC10 x p b j u) (hi : i ≠ j) (hR : Below u.heap.size u u') : RdC10 x p (b.set i true) j u' := by
  obtain ⟨q, h1, h2, h3, h4⟩ := h
  exact ⟨q, h1, fun h => h2 (by rwa [List.getElem?_set_ne hi] at h), h3, h4.below hR⟩
theorem RdC10.run {x : Nat} {p : Int} {b : List Bool} {j : Nat} {u' : World} {q : Int} (h1 : p ≤ q) (h2 : q ≤ p + 10) (h : Rd u' x q) : RdC10 x p (b.set j true) j u' := by
  refine ⟨q, h1, fun h => ?_, h2, h⟩
  rw [List.getElem?_set_self'] at h
  cases hb : b[j]? <;> simp [hb] at h
theorem RdC10.setR {x : Nat} {p : Int} {b : List Bool} {j : Nat} {u : World} {i : Nat} (h : RdC10 x p b j u) (hi : i ≠ j) {g : Nat} (hg : x < g) (o : Nat) (r : Rt) : RdC10 x p (b.set i true) j (setR u g o r) := by
  obtain ⟨q, h1, h2, h3, h4⟩ := h
  exact ⟨q, h1, fun h => h2 (by rwa [List.getElem?_set_ne hi] at h), h3, h4.setR hg _ _⟩
/-- What a draw of a thing leaves, in plain data. -/
def ThingOkDrawn (w : World) (e : Ending) (w' : World) : Prop :=
  ∃ (t : Th) (sa qa : Option Addr) (sc qc : Nat), e = .returned (.agg #[.int .i64 t.kind, .int .i64 t.sec, .int .i64 t.vou, .int .i64 t.vers, .int .i64 t.num, .slice sa t.slots.length sc, .slice qa t.queue.length qc, .int .i64 t.tg]) ∧
    t.slots.length ≤ 4 ∧ t.queue.length ≤ 4 ∧ RowR w' sa t.slots ∧ RowI w' qa t.queue ∧ Below w.heap.size w w'
/-- A thing that is being drawn in block T. -/
def ThIn (x : Nat) (w : World) (T n : Nat) (q : Int) (u : World) : Prop :=
  ∃ (k s v ve nu tg : Int) (sa : Option Addr) (sn sc : Nat) (qa : Option Addr) (qn qc : Nat), u.heap[T]? = some (.cells #[.int .i64 k, .int .i64 s, .int .i64 v, .int .i64 ve, .int .i64 nu, .slice sa sn sc, .slice qa qn qc, .int .i64 tg] 28 (0, 0)) ∧
    SlO u w.heap.size (.slice sa sn sc) ∧ QuO u w.heap.size (.slice qa qn qc) n ∧ Rd u x q ∧ Kept x w u
theorem ThIn.put0 {x T n : Nat} {w u : World} {q : Int} (h : ThIn x w T n q u) (hx : x < w.heap.size) (hT : w.heap.size ≤ T) (y : Int) : ThIn x w T n q (u.setCell ⟨T, 0, none⟩ (.int .i64 y)) := by
  obtain ⟨k, s, v, ve, nu, tg, sa, sn, sc, qa, qn, qc, h1, h2, h3, h4, h5⟩ := h
  exact ⟨y, s, v, ve, nu, tg, sa, sn, sc, qa, qn, qc, own_set h1 0 _, h2.setT h1 _ _, h3.setT h1 _ _, h4.setCell (show x < T by omega) _, h5.setCell_new (show w.heap.size ≤ T by omega) _⟩
theorem ThIn.put3 {x T n : Nat} {w u : World} {q : Int} (h : ThIn x w T n q u) (hx : x < w.heap.size) (hT : w.heap.size ≤ T) (y : Int) : ThIn x w T n q (u.setCell ⟨T, 3, none⟩ (.int .i64 y)) := by
  obtain ⟨k, s, v, ve, nu, tg, sa, sn, sc, qa, qn, qc, h1, h2, h3, h4, h5⟩ := h
  exact ⟨k, s, v, y, nu, tg, sa, sn, sc, qa, qn, qc, own_set h1 3 _, h2.setT h1 _ _, h3.setT h1 _ _, h4.setCell (show x < T by omega) _, h5.setCell_new (show w.heap.size ≤ T by omega) _⟩
theorem ThIn.put4 {x T n : Nat} {w u : World} {q : Int} (h : ThIn x w T n q u) (hx : x < w.heap.size) (hT : w.heap.size ≤ T) (y : Int) : ThIn x w T n q (u.setCell ⟨T, 4, none⟩ (.int .i64 y)) := by
  obtain ⟨k, s, v, ve, nu, tg, sa, sn, sc, qa, qn, qc, h1, h2, h3, h4, h5⟩ := h
  exact ⟨k, s, v, ve, y, tg, sa, sn, sc, qa, qn, qc, own_set h1 4 _, h2.setT h1 _ _, h3.setT h1 _ _, h4.setCell (show x < T by omega) _, h5.setCell_new (show w.heap.size ≤ T by omega) _⟩
theorem ThIn.pick {x T n : Nat} {w u u' : World} {q q' : Int} (h : ThIn x w T n q u) (hx : x < w.heap.size) (hT : w.heap.size ≤ T) (hk : Kept x u u') (hr : Rd u' x q') : ThIn x w T n q' u' := by
  obtain ⟨k, s, v, ve, nu, tg, sa, sn, sc, qa, qn, qc, h1, h2, h3, h4, h5⟩ := h
  exact ⟨k, s, v, ve, nu, tg, sa, sn, sc, qa, qn, qc, own_kept hk (by omega) h1, h2.kept hk hx, h3.kept hk hx, hr, h5.trans hk⟩
theorem ThIn.below {x T n : Nat} {w u u' : World} {q : Int} (h : ThIn x w T n q u) (hb : Below u.heap.size u u') : ThIn x w T n q u' := by
  obtain ⟨k, s, v, ve, nu, tg, sa, sn, sc, qa, qn, qc, h1, h2, h3, h4, h5⟩ := h
  exact ⟨k, s, v, ve, nu, tg, sa, sn, sc, qa, qn, qc, own_below hb h1, h2.below hb, h3.below hb, h4.below hb, h5.of_below hb⟩
theorem ThIn.more {x T n n' : Nat} {w u : World} {q : Int} (h : ThIn x w T n q u) (hn : n ≤ n') : ThIn x w T n' q u := by
  obtain ⟨k, s, v, ve, nu, tg, sa, sn, sc, qa, qn, qc, h1, h2, h3, h4, h5⟩ := h
  exact ⟨k, s, v, ve, nu, tg, sa, sn, sc, qa, qn, qc, h1, h2, h3.mono (Nat.le_refl _) hn, h4, h5⟩
set_option maxHeartbeats 4000000 in
set_option maxRecDepth 100000 in
theorem drawThingOk_any (a : Option Addr) (len cap : Nat) (z : List Int) (w : World) (hr : IsRow .u8 w a len cap z) :
    Calls Try.prog 13 #[.slice a len cap] w (ThingOkDrawn w) := by
  have hR := own_new w (.cells #[.int .i64 0, .int .i64 0, .int .i64 0, .int .i64 0, .int .i64 0, .slice none 0 0, .slice none 0 0, .int .i64 0] 28)
  go_enter Try.func13, Try.ntmps13
  go_wp2_with fail
  refine (l6Open_any _ _ _ _ _ (hr.alloc _)).mono ?_
  rintro e w0 ⟨x, hx0, rfl, r0, b0⟩
  have z0 := b0.size
  try simp at z0
  have lx0 := r0.lt
  try simp at hx0
  have z0_0 : w.heap.size < w0.heap.size := by omega
  have y0_0 : ¬ w.heap.size = x := by omega
  have t0 : Kept x w w0 := by
    refine Kept.of_below ?_ b0
    · repeat (first | exact Kept.refl _ _ | refine Kept.alloc ?_ _)
  obtain ⟨c0, f0⟩ := bcell b0
  replace hR := own_below b0 hR
  clear b0 c0 f0
  go_wp2_with fail
  refine (pick_any _ _ _ _ (by (repeat (first | with_reducible exact r0 | with_reducible apply Rd.setCell | with_reducible apply Rd.alloc | with_reducible apply Rd.drew)); (all_goals (first | omega | (simp <;> omega)))) (by omega) (by omega)).mono ?_
  rintro e w1 ⟨m1, rfl, lo1, hi1, _, r1, k1⟩
  replace hi1 := hi1 (by omega)
  have z1 := k1.size
  try simp at z1
  have lx1 := r1.lt
  have z1_0 : w.heap.size < w1.heap.size := by omega
  have y1_0 : ¬ w.heap.size = x := by omega
  have t1 : Kept x w w1 := by
    refine Kept.trans ?_ k1
    · (repeat (first | with_reducible exact t0 | with_reducible refine Kept.setCell_new ?_ ?_ _ | with_reducible refine Kept.alloc ?_ _ | with_reducible refine Kept.drew ?_)); (all_goals (first | omega | (simp <;> omega)))
  obtain ⟨c1, f1⟩ := kcell k1
  have K := k1
  clear c1 f1 k1
  go_wp2_with fail
  refine (pick_any _ _ _ _ (by (repeat (first | with_reducible exact r1 | with_reducible apply Rd.setCell | with_reducible apply Rd.alloc | with_reducible apply Rd.drew)); (all_goals (first | omega | (simp <;> omega)))) (by omega) (by omega)).mono ?_
  rintro e w2 ⟨m2, rfl, lo2, hi2, _, r2, k2⟩
  replace hi2 := hi2 (by omega)
  have z2 := k2.size
  try simp at z2
  have lx2 := r2.lt
  have z2_0 : w.heap.size < w2.heap.size := by omega
  have y2_0 : ¬ w.heap.size = x := by omega
  have t2 : Kept x w w2 := by
    refine Kept.trans ?_ k2
    · (repeat (first | with_reducible exact t1 | with_reducible refine Kept.setCell_new ?_ ?_ _ | with_reducible refine Kept.alloc ?_ _ | with_reducible refine Kept.drew ?_)); (all_goals (first | omega | (simp <;> omega)))
  obtain ⟨c2, f2⟩ := kcell k2
  replace K := K.trans k2
  clear c2 f2 k2
  go_wp2_with fail
  refine (l71Thing_any _ _ _ _ _ r2 (by omega) (by omega)).mono ?_
  rintro e w3 ⟨k, s, v, ve, nu, tg, sv, qv, rfl, hS, hQ, p3, lp3, up3, r3, k3⟩
  have z3 := k3.size
  replace K := K.trans k3
  replace t2 := t2.trans k3
  replace hS := hS.mono (base' := w0.heap.size) (by omega)
  replace hQ := hQ.mono (base' := w0.heap.size) (by omega) (Nat.le_refl _)
  obtain ⟨sa, sn, sc, rfl, _⟩ := hS.slice
  obtain ⟨qa, qn, qc, rfl, _⟩ := hQ.slice
  clear k3
  go_wp2_with fail
  have hB : Below w3.heap.size w3 (w3.alloc (.cells #[.int .i64 k, .int .i64 s, .int .i64 v, .int .i64 ve, .int .i64 nu, .slice sa sn sc, .slice qa qn qc, .int .i64 tg] 28)) := (Below.refl _ _).alloc (Nat.le_refl _) _
  have hst : ThIn x w0 w3.heap.size 3 p3 (w3.alloc (.cells #[.int .i64 k, .int .i64 s, .int .i64 v, .int .i64 ve, .int .i64 nu, .slice sa sn sc, .slice qa qn qc, .int .i64 tg] 28)) :=
    ⟨_, _, _, _, _, _, _, _, _, _, _, _, own_new _ _, hS.below hB, hQ.below hB, r3.below hB, K.of_below hB⟩
  have zT : w0.heap.size ≤ w3.heap.size := K.size
  clear hB hS hQ r3 K
  generalize w3.heap.size = T at *
  have lq3 : 0 ≤ p3 := by omega
  clear lp3 z1 z2 z3 z1_0 z2_0 y1_0 y2_0 lx1 lx2 lo1 hi1 lo2 hi2 r1 r2 t1
  go_loopw [5] (fun i wr => ∃ k : Nat, i = .int .i64 (k : Int) ∧ k ≤ 4 ∧ ∃ q : Int, 0 ≤ q ∧ q ≤ 12 + 10 * k ∧ ThIn x w0 T 3 q wr) (fun i _ => (4 - intOf i).toNat)
  case atStart => exact ⟨0, rfl, by omega, p3, by omega, by omega, hst⟩
  case round =>
    clear hst
    obtain ⟨i, rfl, hi4, q, hq1, hq2, hst⟩ := hrel
    have HST := hid hst
    obtain ⟨k', s', v', ve', nu', tg', sa', sn', sc', qa', qn', qc', hT, hS, hQ, hr2, hk2⟩ := hst
    have cT := (own_cells hT).1
    have fT := (own_cells hT).2
    have hs4 : sn' ≤ 4 := by obtain ⟨_, _, _, h, hh⟩ := hS.slice; cases h; exact hh
    by_cases hki : i < sn'
    · clear HST
      obtain ⟨g, cs, rfl, hbg, hg, hcs⟩ := hS.row (by omega)
      go_upto_region 6 with fail
      clear cT fT
      refine wp_region_each (by kernel_rfl) (by kernel_rfl) (by kernel_rfl) (fun b ac u => ∃ t22 t23 t24 t25 t26 t27 : Value, ac = ⟨#[.slice a len cap, undef, .pointer (some ⟨w.heap.size, 0, none⟩), .pointer (some ⟨x, 0, none⟩), .pointer (some ⟨T, 0, none⟩), .int .i64 (i : Int), .slice a len cap, .pointer (some ⟨x, 0, none⟩), .pointer (some ⟨x, 0, none⟩), .pointer (some ⟨x, 0, none⟩), .int .i64 m1, .int .i64 (1 + m1), .pointer (some ⟨x, 0, none⟩), .int .i64 m2, .agg #[.int .i64 k, .int .i64 s, .int .i64 v, .int .i64 ve, .int .i64 nu, .slice sa sn sc, .slice qa qn qc, .int .i64 tg], .int .i64 (i : Int), .pointer (some ⟨T, 5, none⟩), .slice (some ⟨g, 0, none⟩) sn' sc', .int .i64 (sn' : Int), .bool true, u20, u21, t22, t23, t24, t25, t26, t27, undef, undef, undef, undef, undef, undef, undef, undef, undef, undef, undef, undef, undef, undef, undef, undef, undef, undef, undef, undef, undef, undef, undef, undef, undef, undef, undef, undef, undef, undef, undef, undef, undef], []⟩ ∧ (Kept x w0 u ∧ RdC10 x q b 4 u ∧ SlO u w0.heap.size (.slice (some ⟨g, 0, none⟩) sn' sc') ∧ QuO u w0.heap.size (.slice qa' qn' qc') 3 ∧ u.heap[T]? = some (.cells #[.int .i64 k', .int .i64 s', .int .i64 v', .int .i64 ve', .int .i64 nu', .slice (some ⟨g, 0, none⟩) sn' sc', .slice qa' qn' qc', .int .i64 tg'] 28 (0, 0)) ∧ ∃ cs : Array Value, u.heap[g]? = some (.cells cs 44 (0, 0)) ∧ sn' * 5 ≤ cs.size) ∧ (b[0]? = some true → t22 = .pointer (some ⟨T, 5, none⟩)) ∧ (b[1]? = some true → t23 = .slice (some ⟨g, 0, none⟩) sn' sc') ∧ (b[2]? = some true → t24 = .int .i64 (i : Int)) ∧ (b[3]? = some true → t25 = .pointer (some ⟨x, 0, none⟩)) ∧ (b[4]? = some true → ∃ r : Rt, t26 = .agg #[.int .i64 r.t, .int .i64 r.v, .bool r.r, .bool r.w, .bool r.k]) ∧ (b[5]? = some true → t27 = .pointer (some ⟨g, i * 5, none⟩)) ∧ (b[6]? = some true → True)) ?h0_1 ⟨?o1_0, ?o1_1, ?o1_2, ?o1_3, ?o1_4, ?o1_5, ?o1_6, trivial⟩ ?hend_1
      case h0_1 => exact ⟨u22, u23, u24, u25, u26, u27, rfl, ⟨hk2.drew, RdC10.start hr2.drew, hS.below (Below.refl _ _).drew, hQ.below (Below.refl _ _).drew, hT, cs, hg, hcs⟩, by simp, by simp, by simp, by simp, by simp, by simp, by simp⟩
      case o1_0 =>
        rintro b ac u hbl hbi hcl he ⟨t22, t23, t24, t25, t26, t27, rfl, hk, g0, g1, g2, g3, g4, g5, g6⟩ K hK
        clear he
        go_simp
        exact hK _ _ ⟨_, _, _, _, _, _, rfl, ⟨hk.1, hk.2.1.other (by decide) (Below.refl _ _), hk.2.2⟩, fun _ => rfl, fun h => g1 (by simpa using h), fun h => g2 (by simpa using h), fun h => g3 (by simpa using h), fun h => g4 (by simpa using h), fun h => g5 (by simpa using h), fun h => g6 (by simpa using h)⟩
      case o1_1 =>
        rintro b ac u hbl hbi hcl he ⟨t22, t23, t24, t25, t26, t27, rfl, hk, g0, g1, g2, g3, g4, g5, g6⟩ K hK
        have p0 : b[0]? = some true := by simp [Region.binds] at he; simp [he]
        obtain rfl := g0 p0
        clear he
        have hT := hk.2.2.2.2.1
        have cT := (own_cells hT).1
        have fT := (own_cells hT).2
        clear hT
        go_simp
        exact hK _ _ ⟨_, _, _, _, _, _, rfl, ⟨hk.1, hk.2.1.other (by decide) (Below.refl _ _), hk.2.2⟩, fun h => g0 (by simpa using h), fun _ => rfl, fun h => g2 (by simpa using h), fun h => g3 (by simpa using h), fun h => g4 (by simpa using h), fun h => g5 (by simpa using h), fun h => g6 (by simpa using h)⟩
      case o1_2 =>
        rintro b ac u hbl hbi hcl he ⟨t22, t23, t24, t25, t26, t27, rfl, hk, g0, g1, g2, g3, g4, g5, g6⟩ K hK
        clear he
        go_simp
        exact hK _ _ ⟨_, _, _, _, _, _, rfl, ⟨hk.1, hk.2.1.other (by decide) (Below.refl _ _), hk.2.2⟩, fun h => g0 (by simpa using h), fun h => g1 (by simpa using h), fun _ => rfl, fun h => g3 (by simpa using h), fun h => g4 (by simpa using h), fun h => g5 (by simpa using h), fun h => g6 (by simpa using h)⟩
      case o1_3 =>
        rintro b ac u hbl hbi hcl he ⟨t22, t23, t24, t25, t26, t27, rfl, hk, g0, g1, g2, g3, g4, g5, g6⟩ K hK
        clear he
        go_simp
        exact hK _ _ ⟨_, _, _, _, _, _, rfl, ⟨hk.1, hk.2.1.other (by decide) (Below.refl _ _), hk.2.2⟩, fun h => g0 (by simpa using h), fun h => g1 (by simpa using h), fun h => g2 (by simpa using h), fun _ => rfl, fun h => g4 (by simpa using h), fun h => g5 (by simpa using h), fun h => g6 (by simpa using h)⟩
      case o1_4 =>
        rintro b ac u hbl hbi hcl he ⟨t22, t23, t24, t25, t26, t27, rfl, hk, g0, g1, g2, g3, g4, g5, g6⟩ K hK
        have p3 : b[3]? = some true := by simp [Region.binds] at he; simp [he]
        obtain rfl := g3 p3
        clear he
        obtain ⟨hk1, ⟨qq, hq3, hq4, _, hr⟩, hk3⟩ := hk
        replace hq4 := hq4 hbi
        go_simp
        refine (l71Right_any _ _ _ hr (by omega) (by omega)).mono ?_
        rintro e u' ⟨rt, rv, rr, rw, rk, rfl, _, _, _, _, q', hq5, hq6, hr', hS'⟩
        go_simp
        exact hK _ _ ⟨_, _, _, _, _, _, rfl, ⟨hk1.trans hS', RdC10.run (by omega) (by omega) hr', hk3.1.kept hS' lx0, hk3.2.1.kept hS' lx0, own_kept hS' (by omega) hk3.2.2.1, hk3.2.2.2.imp fun cs h => ⟨own_kept hS' (by omega) h.1, h.2⟩⟩, fun h => g0 (by simpa using h), fun h => g1 (by simpa using h), fun h => g2 (by simpa using h), fun h => g3 (by simpa using h), fun _ => ⟨⟨rt, rv, rr, rw, rk⟩, rfl⟩, fun h => g5 (by simpa using h), fun h => g6 (by simpa using h)⟩
      case o1_5 =>
        rintro b ac u hbl hbi hcl he ⟨t22, t23, t24, t25, t26, t27, rfl, hk, g0, g1, g2, g3, g4, g5, g6⟩ K hK
        have p1 : b[1]? = some true := by simp [Region.binds] at he; simp [he]
        have p2 : b[2]? = some true := by simp [Region.binds] at he; simp [he]
        obtain rfl := g1 p1
        obtain rfl := g2 p2
        clear he
        go_simp
        exact hK _ _ ⟨_, _, _, _, _, _, rfl, ⟨hk.1, hk.2.1.other (by decide) (Below.refl _ _), hk.2.2⟩, fun h => g0 (by simpa using h), fun h => g1 (by simpa using h), fun h => g2 (by simpa using h), fun h => g3 (by simpa using h), fun h => g4 (by simpa using h), fun _ => rfl, fun h => g6 (by simpa using h)⟩
      case o1_6 =>
        rintro b ac u hbl hbi hcl he ⟨t22, t23, t24, t25, t26, t27, rfl, hk, g0, g1, g2, g3, g4, g5, g6⟩ K hK
        have p5 : b[5]? = some true := by simp [Region.binds] at he; simp [he]
        have p4 : b[4]? = some true := by simp [Region.binds] at he; simp [he]
        obtain rfl := g5 p5
        obtain ⟨r, rfl⟩ := g4 p4
        clear he
        obtain ⟨hk1, hk2, hk3, hk4, hk5, cs, hk6, hk7⟩ := hk
        have fG := (own_cells hk6).2
        obtain ⟨v0, c0⟩ := own_at hk6 (o := i * 5) (by omega)
        obtain ⟨v1, c1⟩ := own_at hk6 (o := i * 5 + 1) (by omega)
        obtain ⟨v2, c2⟩ := own_at hk6 (o := i * 5 + 2) (by omega)
        obtain ⟨v3, c3⟩ := own_at hk6 (o := i * 5 + 3) (by omega)
        obtain ⟨v4, c4⟩ := own_at hk6 (o := i * 5 + 4) (by omega)
        go_simp
        exact hK _ _ ⟨_, _, _, _, _, _, rfl, ⟨hk1.setR hbg _ _, hk2.setR (by decide) (show x < g by omega) _ _, hk3.setR _ _ _, hk4.setR hk6 _ _, own_setR_ne hk5 (own_ne hk6 hk5 (by decide)) _ _, _, own_setR hk6 _ _, by simpa using hk7⟩, fun h => g0 (by simpa using h), fun h => g1 (by simpa using h), fun h => g2 (by simpa using h), fun h => g3 (by simpa using h), fun h => g4 (by simpa using h), fun h => g5 (by simpa using h), fun _ => trivial⟩
      rintro ac u ⟨t22, t23, t24, t25, t26, t27, rfl, hk, g0, g1, g2, g3, g4, g5, g6⟩
      replace g0 := g0 (by simp)
      replace g1 := g1 (by simp)
      replace g2 := g2 (by simp)
      replace g3 := g3 (by simp)
      replace g4 := g4 (by simp)
      replace g5 := g5 (by simp)
      replace g6 := g6 (by simp)
      obtain ⟨hk1, ⟨qq, hq3, _, hq5, hr'⟩, hS', hQ', hT', _⟩ := hk
      have hst : ThIn x w0 T 3 qq u := ⟨_, _, _, _, _, _, _, _, _, _, _, _, hT', hS', hQ', hr', hk1⟩
      clear hr' hS' hQ' hT' hk1 hT hS hQ hr2 hk2 hg g0 g1 g2 g3 g4 g5 g6
      go_wp2_with fail
      go_roundw
      case rel => exact ⟨i + 1, by go_num, by omega, qq, by omega, by omega, hst⟩
      case measure => simp [intOf]; omega
    · clear hS hQ hr2 hk2 hT
      have hst := HST.out
      obtain ⟨_, _, _, _, _, _, _, _, _, _, _, _, _, _, _, hr2, _⟩ := hst
      go_wp2_with fail
      clear cT fT hki hs4
      refine (pick_any _ _ _ _ hr2 (by omega) (by omega)).mono ?_
      rintro e w5 ⟨m, rfl, hm0, hm1, _, r5, k5⟩
      replace hm1 := hm1 (by omega)
      have hst := HST.out.pick lx0 zT k5 r5
      have lx5 := r5.lt
      clear k5 HST hr2
      go_upto_block 2 with fail
      go_cut [4] from 30 to 59 (fun c wx => c = .pointer (some ⟨T, 0, none⟩) ∧ ∃ q : Int, ThIn x w0 T 4 q wx)
      case first =>
        have hst2 := hst
        obtain ⟨yk, ys, yv, yve, ynu, ytg, ysa, ysn, ysc, yqa, yqn, yqc, hT, hS, hQ, _, hk2⟩ := hst2
        have zT5 := own_lt hT
        cases q0 : (m == 0)
        · cases q1 : (m == 1)
          · cases q2 : (m == 2)
            · cases q3 : (m == 3)
              · clear hS hQ hk2 hT r5
                go_wp2_with fail
                go_meet
                exact ⟨rfl, _, hst.more (by omega)⟩
              · clear hS hQ hk2
                go_wp2_with fail
                have hO := own_new w5 (.cells #[.int .i64 1, .int .i64 5, .int .i64 6] 3)
                replace hst := hst.below ((Below.refl _ _).alloc (Nat.le_refl _) (.cells #[.int .i64 1, .int .i64 5, .int .i64 6] 3))
                refine (pick_any _ _ _ _ (r5.alloc _) (by omega) (by omega)).mono ?_
                rintro e w6 ⟨mm, rfl, hn0, hn1, _, r6, k6⟩
                replace hn1 := hn1 (by omega)
                replace hO := own_kept k6 (by omega) hO
                replace hT := own_kept k6 (by omega) (own_alloc hT _)
                replace hst := hst.pick lx0 zT k6 r6
                clear k6
                obtain ⟨cO, fO⟩ := own_cells hO
                obtain ⟨cT, fT⟩ := own_cells hT
                obtain ⟨y, hy, _⟩ := pick_list [.int .i64 1, .int .i64 5, .int .i64 6] mm.toNat (fun _ => True) (by simp) (by simp; omega)
                go_wp2_with fail
                go_meet
                exact ⟨rfl, _, (hst.put3 lx0 zT _).more (by omega)⟩
            · go_upto_region 13 with fail
              refine wp_region_each (by kernel_rfl) (by kernel_rfl) (by kernel_rfl) (fun b ac u => ∃ t45 t46 t47 t48 t49 t50 t51 : Value, ac = ⟨#[.slice a len cap, undef, .pointer (some ⟨w.heap.size, 0, none⟩), .pointer (some ⟨x, 0, none⟩), .pointer (some ⟨T, 0, none⟩), .int .i64 (i : Int), .slice a len cap, .pointer (some ⟨x, 0, none⟩), .pointer (some ⟨x, 0, none⟩), .pointer (some ⟨x, 0, none⟩), .int .i64 m1, .int .i64 (1 + m1), .pointer (some ⟨x, 0, none⟩), .int .i64 m2, .agg #[.int .i64 k, .int .i64 s, .int .i64 v, .int .i64 ve, .int .i64 nu, .slice sa sn sc, .slice qa qn qc, .int .i64 tg], .int .i64 (i : Int), .pointer (some ⟨T, 5, none⟩), .slice sa' sn' sc', .int .i64 (sn' : Int), .bool false, u20, u21, u22, u23, u24, u25, u26, u27, .pointer (some ⟨x, 0, none⟩), .int .i64 m, .bool false, .bool false, undef, undef, undef, undef, undef, undef, .bool false, .bool false, undef, undef, undef, .bool true, .bool true, t45, t46, t47, t48, t49, t50, t51, undef, undef, undef, undef, undef, undef, undef, undef, undef], []⟩ ∧ (Kept x w0 u ∧ RdC x (q + 1) b [3] u ∧ SlO u w0.heap.size (.slice ysa ysn ysc) ∧ True ∧ (b[5]? = some false → QuO u w0.heap.size (.slice yqa yqn yqc) 3) ∧ (b[7]? = some false → u.heap[T]? = some (.cells #[.int .i64 yk, .int .i64 ys, .int .i64 yv, .int .i64 yve, .int .i64 ynu, .slice ysa ysn ysc, .slice yqa yqn yqc, .int .i64 ytg] 28 (0, 0)))) ∧ (b[0]? = some true → b[7]? = some false → t45 = .pointer (some ⟨T, 6, none⟩)) ∧ (b[1]? = some true → t46 = .slice yqa yqn yqc) ∧ (b[2]? = some true → t47 = .pointer (some ⟨x, 0, none⟩)) ∧ (b[3]? = some true → ∃ y : Int, t48 = .int .i64 y) ∧ (b[4]? = some true → (b[5]? = some false → ∃ (B : Nat) (y : Int), t49 = .slice (some ⟨B, 0, none⟩) 1 1 ∧ u.heap[B]? = some (.cells #[.int .i64 y] 3 (0, 0)))) ∧ (b[5]? = some true → ∃ (a : Option Addr) (n' c : Nat), t50 = .slice a n' c ∧ QuO u w0.heap.size (.slice a n' c) 4) ∧ (b[6]? = some true → t51 = .pointer (some ⟨T, 6, none⟩)) ∧ (b[7]? = some true → ∃ (a : Option Addr) (n' c : Nat), QuO u w0.heap.size (.slice a n' c) 4 ∧ u.heap[T]? = some (.cells #[.int .i64 yk, .int .i64 ys, .int .i64 yv, .int .i64 yve, .int .i64 ynu, .slice ysa ysn ysc, .slice a n' c, .int .i64 ytg] 28 (0, 0)))) ?h0_2 ⟨?o2_0, ?o2_1, ?o2_2, ?o2_3, ?o2_4, ?o2_5, ?o2_6, ?o2_7, trivial⟩ ?hend_2
              case h0_2 => exact ⟨undef, undef, undef, undef, undef, undef, undef, rfl, ⟨hk2.drew, RdC.start r5.drew, hS.below (Below.refl _ _).drew, trivial, fun _ => hQ.below (Below.refl _ _).drew, fun _ => hT⟩, by simp, by simp, by simp, by simp, by simp, by simp, by simp, by simp⟩
              case o2_0 =>
                rintro b ac u hbl hbi hcl he ⟨t45, t46, t47, t48, t49, t50, t51, rfl, hk, g0, g1, g2, g3, g4, g5, g6, g7⟩ K hK
                have hla := last_false (L := 7) hcl hbl rfl (by kernel_rfl) hbi
                clear he
                go_simp
                exact hK _ _ ⟨_, _, _, _, _, _, _, rfl, ⟨hk.1, hk.2.1.other (by decide) (Below.refl _ _), hk.2.2.1, hk.2.2.2.1, fun h => hk.2.2.2.2.1 (by simpa using h), fun h => hk.2.2.2.2.2 (by simpa using h)⟩, fun _ _ => rfl, fun h => g1 (by simpa using h), fun h => g2 (by simpa using h), fun h => g3 (by simpa using h), fun h => (fun g => (fun h5 => g (by simpa using h5))) (g4 (by simpa using h)), fun h => g5 (by simpa using h), fun h => g6 (by simpa using h), fun h => (fun g => by simp [hla] at h) (g7 (by simpa using h))⟩
              case o2_1 =>
                rintro b ac u hbl hbi hcl he ⟨t45, t46, t47, t48, t49, t50, t51, rfl, hk, g0, g1, g2, g3, g4, g5, g6, g7⟩ K hK
                have hla := last_false (L := 7) hcl hbl rfl (by kernel_rfl) hbi
                have p0 : b[0]? = some true := by simp [Region.binds] at he; simp [he]
                obtain rfl := g0 p0 hla
                clear he
                have hT := hk.2.2.2.2.2 hla
                have cT := (own_cells hT).1
                have fT := (own_cells hT).2
                clear hT
                go_simp
                exact hK _ _ ⟨_, _, _, _, _, _, _, rfl, ⟨hk.1, hk.2.1.other (by decide) (Below.refl _ _), hk.2.2.1, hk.2.2.2.1, fun h => hk.2.2.2.2.1 (by simpa using h), fun h => hk.2.2.2.2.2 (by simpa using h)⟩, fun h _ => (fun g => g) (g0 (by simpa using h) hla), fun _ => rfl, fun h => g2 (by simpa using h), fun h => g3 (by simpa using h), fun h => (fun g => (fun h5 => g (by simpa using h5))) (g4 (by simpa using h)), fun h => g5 (by simpa using h), fun h => g6 (by simpa using h), fun h => (fun g => by simp [hla] at h) (g7 (by simpa using h))⟩
              case o2_2 =>
                rintro b ac u hbl hbi hcl he ⟨t45, t46, t47, t48, t49, t50, t51, rfl, hk, g0, g1, g2, g3, g4, g5, g6, g7⟩ K hK
                have hla := last_false (L := 7) hcl hbl rfl (by kernel_rfl) hbi
                clear he
                go_simp
                exact hK _ _ ⟨_, _, _, _, _, _, _, rfl, ⟨hk.1, hk.2.1.other (by decide) (Below.refl _ _), hk.2.2.1, hk.2.2.2.1, fun h => hk.2.2.2.2.1 (by simpa using h), fun h => hk.2.2.2.2.2 (by simpa using h)⟩, fun h _ => (fun g => g) (g0 (by simpa using h) hla), fun h => g1 (by simpa using h), fun _ => rfl, fun h => g3 (by simpa using h), fun h => (fun g => (fun h5 => g (by simpa using h5))) (g4 (by simpa using h)), fun h => g5 (by simpa using h), fun h => g6 (by simpa using h), fun h => (fun g => by simp [hla] at h) (g7 (by simpa using h))⟩
              case o2_3 =>
                rintro b ac u hbl hbi hcl he ⟨t45, t46, t47, t48, t49, t50, t51, rfl, hk, g0, g1, g2, g3, g4, g5, g6, g7⟩ K hK
                have hla := last_false (L := 7) hcl hbl rfl (by kernel_rfl) hbi
                have p2 : b[2]? = some true := by simp [Region.binds] at he; simp [he]
                obtain rfl := g2 p2
                clear he
                obtain ⟨hk1, ⟨qq, hq3, hq4, hr⟩, hk3⟩ := hk
                have hcn := Cnt_le b [3]
                simp only [List.length_cons, List.length_nil] at hcn
                go_simp
                refine (pick_any _ _ _ _ hr (by omega) (by omega)).mono ?_
                rintro e u' ⟨y, rfl, _, _, _, hr', hS'⟩
                go_simp
                exact hK _ _ ⟨_, _, _, _, _, _, _, rfl, ⟨hk1.trans hS', RdC.run hbi (by decide) (by decide) hq3 hq4 hr', hk3.1.kept hS' lx0, trivial, fun h => (hk3.2.2.1 (by simpa using h)).kept hS' lx0, fun h => own_kept hS' (by omega) (hk3.2.2.2 (by simpa using h))⟩, fun h _ => (fun g => g) (g0 (by simpa using h) hla), fun h => g1 (by simpa using h), fun h => g2 (by simpa using h), fun _ => ⟨_, rfl⟩, fun h => (by have hn := hcl 4 _ rfl (by simpa using h); simp [Region.binds, hbi] at hn), fun h => (by have hn := hcl 5 _ rfl (by simpa using h); simp [Region.binds, hbi] at hn), fun h => g6 (by simpa using h), fun h => (fun g => by simp [hla] at h) (g7 (by simpa using h))⟩
              case o2_4 =>
                rintro b ac u hbl hbi hcl he ⟨t45, t46, t47, t48, t49, t50, t51, rfl, hk, g0, g1, g2, g3, g4, g5, g6, g7⟩ K hK
                have hla := last_false (L := 7) hcl hbl rfl (by kernel_rfl) hbi
                have p3 : b[3]? = some true := by simp [Region.binds] at he; simp [he]
                obtain ⟨y, rfl⟩ := g3 p3
                clear he
                go_simp
                have hR' := (Below.refl u.heap.size u).alloc (Nat.le_refl _) (.cells #[.int .i64 y] 3)
                exact hK _ _ ⟨_, _, _, _, _, _, _, rfl, ⟨hk.1.of_below hR', hk.2.1.other (by decide) hR', hk.2.2.1.below hR', trivial, fun h => (hk.2.2.2.2.1 (by simpa using h)).below hR', fun h => own_below hR' (hk.2.2.2.2.2 (by simpa using h))⟩, fun h _ => (fun g => g) (g0 (by simpa using h) hla), fun h => g1 (by simpa using h), fun h => g2 (by simpa using h), fun h => g3 (by simpa using h), fun _ => fun _ => ⟨_, _, rfl, own_new _ _⟩, fun h => (by have hn := hcl 5 _ rfl (by simpa using h); simp [Region.binds, hbi] at hn), fun h => g6 (by simpa using h), fun h => (fun g => by simp [hla] at h) (g7 (by simpa using h))⟩
              case o2_5 =>
                rintro b ac u hbl hbi hcl he ⟨t45, t46, t47, t48, t49, t50, t51, rfl, hk, g0, g1, g2, g3, g4, g5, g6, g7⟩ K hK
                have hla := last_false (L := 7) hcl hbl rfl (by kernel_rfl) hbi
                have p1 : b[1]? = some true := by simp [Region.binds] at he; simp [he]
                have p4 : b[4]? = some true := by simp [Region.binds] at he; simp [he]
                obtain rfl := g1 p1
                obtain hB := g4 p4
                clear he
                obtain ⟨zs, hz, hown⟩ := hk.2.2.2.2.1 hbi
                obtain ⟨B, y, rfl, hB'⟩ := hB hbi
                obtain ⟨i0, hi, hz0, hz1, hz2⟩ := info_parts infoInt
                refine wp_append_own _ _ _ 26 rfl w0.heap.size 3 i0 (.int .i64 0) 1 8 (by kernel_rfl) hi hz0 hz1 hz2 rfl (by decide) _ _ _ rfl hown ⟨B, 0, none⟩ 1 1 [.int .i64 y] rfl rfl (cell_one hB') (fun v hv => by simp at hv; subst hv; rfl) (by unfold maxLen; omega) (by omega) hk.1.size ?_
                intro v' u' hown' hgr _
                have hbw := grown_below hgr (fun k hk => (hown.lt k hk).1) hk.1.size
                have hq' : QuO u' w0.heap.size v' 4 := ⟨zs ++ [y], by simp only [List.length_append, List.length_cons, List.length_nil]; omega, by simpa using hown'⟩
                obtain ⟨a', n', c', rfl, _⟩ := hq'.slice
                have hS' : SlO u' w0.heap.size (.slice ysa ysn ysc) := by obtain ⟨rs, h7, h8⟩ := hk.2.2.1; exact ⟨rs, h7, ownsRow_grown hown hgr h8 (by decide)⟩
                exact hK _ _ ⟨_, _, _, _, _, _, _, rfl, ⟨hk.1.under hbw, hk.2.1.under (by decide) hbw lx0, hS', trivial, fun h => by simp [hbl] at h, fun h => own_grown hown hgr (hk.2.2.2.2.2 (by simpa using h)) (by decide)⟩, fun h _ => (fun g => g) (g0 (by simpa using h) hla), fun h => g1 (by simpa using h), fun h => g2 (by simpa using h), fun h => g3 (by simpa using h), fun h => (fun g => (fun h5 => by simp [hbl] at h5)) (g4 (by simpa using h)), fun _ => ⟨_, _, _, rfl, hq'⟩, fun h => g6 (by simpa using h), fun h => (fun g => by simp [hla] at h) (g7 (by simpa using h))⟩
              case o2_6 =>
                rintro b ac u hbl hbi hcl he ⟨t45, t46, t47, t48, t49, t50, t51, rfl, hk, g0, g1, g2, g3, g4, g5, g6, g7⟩ K hK
                have hla := last_false (L := 7) hcl hbl rfl (by kernel_rfl) hbi
                clear he
                go_simp
                exact hK _ _ ⟨_, _, _, _, _, _, _, rfl, ⟨hk.1, hk.2.1.other (by decide) (Below.refl _ _), hk.2.2.1, hk.2.2.2.1, fun h => hk.2.2.2.2.1 (by simpa using h), fun h => hk.2.2.2.2.2 (by simpa using h)⟩, fun h _ => (fun g => g) (g0 (by simpa using h) hla), fun h => g1 (by simpa using h), fun h => g2 (by simpa using h), fun h => g3 (by simpa using h), fun h => (fun g => (fun h5 => g (by simpa using h5))) (g4 (by simpa using h)), fun h => g5 (by simpa using h), fun _ => rfl, fun h => (fun g => by simp [hla] at h) (g7 (by simpa using h))⟩
              case o2_7 =>
                rintro b ac u hbl hbi hcl he ⟨t45, t46, t47, t48, t49, t50, t51, rfl, hk, g0, g1, g2, g3, g4, g5, g6, g7⟩ K hK
                have hla := hbi
                have p6 : b[6]? = some true := by simp [Region.binds] at he; simp [he]
                have p5 : b[5]? = some true := by simp [Region.binds] at he; simp [he]
                obtain rfl := g6 p6
                obtain ⟨a, n', c, rfl, hq'⟩ := g5 p5
                clear he
                have hT := hk.2.2.2.2.2 hbi
                have cT := (own_cells hT).1
                have fT := (own_cells hT).2
                go_simp
                exact hK _ _ ⟨_, _, _, _, _, _, _, rfl, ⟨hk.1.setCell_new (show w0.heap.size ≤ T by omega) _, hk.2.1.set (by decide) (show x < T by omega) _, hk.2.2.1.setT hT _ _, trivial, (fun h => by rw [List.getElem?_set_ne (by decide), p5] at h; cases h), fun h => by simp [hbl] at h⟩, fun _ h => (by simp [hbl] at h), fun h => g1 (by simpa using h), fun h => g2 (by simpa using h), fun h => g3 (by simpa using h), fun h => (fun g => (fun h => by rw [List.getElem?_set_ne (by decide), p5] at h; cases h)) (g4 (by simpa using h)), fun h => (fun g => ⟨a, n', c, rfl, hq'.setT hT _ _⟩) (g5 (by simpa using h)), fun h => g6 (by simpa using h), fun _ => ⟨a, n', c, hq'.setT hT _ _, own_set hT 6 _⟩⟩
              rintro ac u ⟨t45, t46, t47, t48, t49, t50, t51, rfl, hk, g0, g1, g2, g3, g4, g5, g6, g7⟩
              clear g0
              replace g1 := g1 (by simp)
              replace g2 := g2 (by simp)
              replace g3 := g3 (by simp)
              replace g4 := g4 (by simp)
              replace g5 := g5 (by simp)
              replace g6 := g6 (by simp)
              replace g7 := g7 (by simp)
              obtain ⟨a', n', c', hq', hT'⟩ := g7
              obtain ⟨hk1, ⟨qq, hq3, hq4, hr'⟩, hS', hR', _, _⟩ := hk
              have hq5 : qq ≤ q + 1 + 1 := cnt_one hq4
              have hst : ThIn x w0 T 4 qq u := ⟨_, _, _, _, _, _, _, _, _, _, _, _, hT', hS', hq', hr', hk1⟩
              clear hq4 hT' hS' hq' hr' hk1 hT hS hQ hk2 g1 g2 g3 g4 g5 g6
              go_wp2_with fail
              go_meet
              exact ⟨rfl, _, hst⟩
          · clear hS hQ hk2
            go_wp2_with fail
            refine (pick_any _ _ _ _ r5 (by omega) (by omega)).mono ?_
            rintro e w6 ⟨mm, rfl, hn0, hn1, _, r6, k6⟩
            replace hT := own_kept k6 (by omega) hT
            replace hst := hst.pick lx0 zT k6 r6
            clear k6
            obtain ⟨cT, fT⟩ := own_cells hT
            go_wp2_with fail
            go_meet
            exact ⟨rfl, _, (hst.put0 lx0 zT _).more (by omega)⟩
        · clear hS hQ hk2
          go_wp2_with fail
          have hO := own_new w5 (.cells #[.int .i64 (-5), .int .i64 (-1), .int .i64 99, .int .i64 100] 3)
          replace hst := hst.below ((Below.refl _ _).alloc (Nat.le_refl _) (.cells #[.int .i64 (-5), .int .i64 (-1), .int .i64 99, .int .i64 100] 3))
          refine (pick_any _ _ _ _ (r5.alloc _) (by omega) (by omega)).mono ?_
          rintro e w6 ⟨mm, rfl, hn0, hn1, _, r6, k6⟩
          replace hn1 := hn1 (by omega)
          replace hO := own_kept k6 (by omega) hO
          replace hT := own_kept k6 (by omega) (own_alloc hT _)
          replace hst := hst.pick lx0 zT k6 r6
          clear k6
          obtain ⟨cO, fO⟩ := own_cells hO
          obtain ⟨cT, fT⟩ := own_cells hT
          obtain ⟨y, hy, _⟩ := pick_list [.int .i64 (-5), .int .i64 (-1), .int .i64 99, .int .i64 100] mm.toNat (fun _ => True) (by simp) (by simp; omega)
          go_wp2_with fail
          go_meet
          exact ⟨rfl, _, (hst.put4 lx0 zT _).more (by omega)⟩
      case rest =>
      clear hst r5 lx5
      obtain ⟨rfl, q', hst⟩ := hcut
      obtain ⟨k', s', v', ve', nu', tg', sa', sn', sc', qa', qn', qc', hT, hS, hQ, hr2, hk2⟩ := hst
      obtain ⟨cT, fT⟩ := own_cells hT
      replace hR := own_kept hk2 (by omega) hR
      obtain ⟨cR, fR⟩ := own_cells hR
      have zR := own_lt hR
      have t3 := t0.trans hk2
      have tb : Below w.heap.size w _ := t3.below' (by omega)
      clear hk2 hr2 t3
      go_wp2_with fail
      have hE := own_set8 hR (.int .i64 k') (.int .i64 s') (.int .i64 v') (.int .i64 ve') (.int .i64 nu') (.slice sa' sn' sc') (.slice qa' qn' qc') (.int .i64 tg')
      obtain ⟨ocE, _⟩ := own_cells hE
      obtain ⟨rs, hrs, hrn, hro⟩ := SlO.open (by obtain ⟨rs, h7, h8⟩ := hS; exact ⟨rs, h7, ownsRow_set8 h8 hR (by decide) (.int .i64 k') (.int .i64 s') (.int .i64 v') (.int .i64 ve') (.int .i64 nu') (.slice sa' sn' sc') (.slice qa' qn' qc') (.int .i64 tg')⟩)
      obtain ⟨zs, hzs, hzn, hzo⟩ := QuO.open (by obtain ⟨rs, h7, h8⟩ := hQ; exact ⟨rs, h7, ownsRow_set8 h8 hR (by decide) (.int .i64 k') (.int .i64 s') (.int .i64 v') (.int .i64 ve') (.int .i64 nu') (.slice sa' sn' sc') (.slice qa' qn' qc') (.int .i64 tg')⟩)
      refine bodyPost_ret (v := .agg #[.int .i64 k', .int .i64 s', .int .i64 v', .int .i64 ve', .int .i64 nu', .slice sa' sn' sc', .slice qa' qn' qc', .int .i64 tg']) ?_ rfl ?_
      · clear hE cT fT cR fR hro hzo tb
        simp only [results, Try.results13]
        go_simp
      · subst hrs hzs
        refine ⟨⟨k', s', v', ve', nu', rs, zs, tg'⟩, sa', qa', sc', qc', rfl, hrn, hzn, hro, hzo, ?_⟩
        repeat (first | with_reducible exact tb | (with_reducible refine Below.setCell ?_ ?_ _))
        all_goals (first | omega | (simp <;> omega))
end Go.Proofs.Ytnhilnikhjgfhaa
