/- The drawn thing: a contract of the reference's l71Thing. No condition but that the reader's place stays small. -/
import Derived.Test.YtcgmnpppdoadhaaDoorOwn
import Derived.Test.YtcgmnpppdoadhaaDoorDrawLab
import Derived.Deep.CutRange
import Derived.Deep.CutBlock
namespace Go.Proofs.YtcgmnpppdoadhaaDoor
set_option maxRecDepth 100000
open Go.RowKit
set_option linter.unusedVariables false
set_option linter.unusedSimpArgs false

/-- A thing in plain cells. -/
def ThC (k s v ve nu : Int) (sv qv : Value) (tg : Int) : Array Value := #[.int .i64 k, .int .i64 s, .int .i64 v, .int .i64 ve, .int .i64 nu, sv, qv, .int .i64 tg]
/-- What a draw of a thing leaves. -/
def ThingDrawn (x : Nat) (p : Int) (w : World) (e : Ending) (w' : World) : Prop :=
  ∃ (k s v ve nu tg : Int) (sv qv : Value), e = .returned (.agg #[.int .i64 k, .int .i64 s, .int .i64 v, .int .i64 ve, .int .i64 nu, sv, qv, .int .i64 tg]) ∧ SlO w' w.heap.size sv ∧ QuO w' w.heap.size qv 3 ∧
    ∃ q : Int, p ≤ q ∧ q ≤ p + 10 ∧ Rd w' x q ∧ Kept x w w'
theorem own_set8 {u : World} {B : Nat} {a0 a1 a2 a3 a4 a5 a6 a7 : Value} {T : TypeId} {fr : Nat × Nat} (h : u.heap[B]? = some (.cells #[a0, a1, a2, a3, a4, a5, a6, a7] T fr)) (v0 v1 v2 v3 v4 v5 v6 v7 : Value) :
    ((((((((u.setCell ⟨B, 0, none⟩ v0).setCell ⟨B, 1, none⟩ v1).setCell ⟨B, 2, none⟩ v2).setCell ⟨B, 3, none⟩ v3).setCell ⟨B, 4, none⟩ v4).setCell ⟨B, 5, none⟩ v5).setCell ⟨B, 6, none⟩ v6).setCell ⟨B, 7, none⟩ v7).heap[B]? = some (.cells #[v0, v1, v2, v3, v4, v5, v6, v7] T fr) := by
  have h8 := own_set (own_set (own_set (own_set (own_set (own_set (own_set (own_set h 0 v0) 1 v1) 2 v2) 3 v3) 4 v4) 5 v5) 6 v6) 7 v7
  simp only [List.setIfInBounds_toArray, List.set_cons_succ, List.set_cons_zero] at h8
  with_reducible exact h8
theorem own_set8_ne {u : World} {B C : Nat} {o : Obj} (h : u.heap[C]? = some o) (hne : B ≠ C) (v0 v1 v2 v3 v4 v5 v6 v7 : Value) :
    ((((((((u.setCell ⟨B, 0, none⟩ v0).setCell ⟨B, 1, none⟩ v1).setCell ⟨B, 2, none⟩ v2).setCell ⟨B, 3, none⟩ v3).setCell ⟨B, 4, none⟩ v4).setCell ⟨B, 5, none⟩ v5).setCell ⟨B, 6, none⟩ v6).setCell ⟨B, 7, none⟩ v7).heap[C]? = some o := by
  have h0 := own_set_ne h (p := ⟨B, 0, none⟩) hne v0
  have h1 := own_set_ne h0 (p := ⟨B, 1, none⟩) hne v1
  have h2 := own_set_ne h1 (p := ⟨B, 2, none⟩) hne v2
  have h3 := own_set_ne h2 (p := ⟨B, 3, none⟩) hne v3
  have h4 := own_set_ne h3 (p := ⟨B, 4, none⟩) hne v4
  have h5 := own_set_ne h4 (p := ⟨B, 5, none⟩) hne v5
  have h6 := own_set_ne h5 (p := ⟨B, 6, none⟩) hne v6
  have h7 := own_set_ne h6 (p := ⟨B, 7, none⟩) hne v7
  with_reducible exact h7
theorem ownsRow_set8 {w : World} {base : Nat} {e : TypeId} {size : Nat} {v : Value} {n : Nat} {xs : List Value} (h : w.ownsRow base e size v n xs) {B : Nat} {cs : Array Value} {T : TypeId} {fr : Nat × Nat} (hT : w.heap[B]? = some (.cells cs T fr)) (hne : T ≠ e) (v0 v1 v2 v3 v4 v5 v6 v7 : Value) :
    ((((((((w.setCell ⟨B, 0, none⟩ v0).setCell ⟨B, 1, none⟩ v1).setCell ⟨B, 2, none⟩ v2).setCell ⟨B, 3, none⟩ v3).setCell ⟨B, 4, none⟩ v4).setCell ⟨B, 5, none⟩ v5).setCell ⟨B, 6, none⟩ v6).setCell ⟨B, 7, none⟩ v7).ownsRow base e size v n xs := by
  refine ⟨h.1, ?_⟩
  rcases h.2 with hn | ⟨g, cap, cur, rfl, hbg, hgg, rest⟩
  · exact .inl hn
  · refine .inr ⟨g, cap, cur, rfl, hbg, own_set8_ne hgg ?_ _ _ _ _ _ _ _ _, rest⟩
    rintro rfl
    rw [hgg] at hT
    cases hT
    exact hne rfl
/-- A thing that is drawn: its cells in block T, its rows, the reader. -/
def ThSt (x : Nat) (w : World) (T n : Nat) (q : Int) (u : World) : Prop :=
  ∃ (k s v ve nu tg : Int) (sa : Option Addr) (sn sc : Nat) (qa : Option Addr) (qn qc : Nat), u.heap[T]? = some (.cells #[.int .i64 k, .int .i64 s, .int .i64 v, .int .i64 ve, .int .i64 nu, .slice sa sn sc, .slice qa qn qc, .int .i64 tg] 36 (0, 0)) ∧
    SlO u w.heap.size (.slice sa sn sc) ∧ QuO u w.heap.size (.slice qa qn qc) n ∧ Rd u x q ∧ Kept x w u ∧ u.heap[w.heap.size]? = some (.cells #[.int .i64 0, .int .i64 0, .int .i64 0, .int .i64 0, .int .i64 0, .slice none 0 0, .slice none 0 0, .int .i64 0] 36 (0, 0))
theorem ThSt.put8 {x T n n' : Nat} {w u : World} {q : Int} (h : ThSt x w T n q u) (hx : x < w.heap.size) (hT : w.heap.size < T) {k s v ve nu tg : Int} {sa : Option Addr} {sn sc : Nat} {qa : Option Addr} {qn qc : Nat} (hS : SlO u w.heap.size (.slice sa sn sc)) (hQ : QuO u w.heap.size (.slice qa qn qc) n') :
    ThSt x w T n' q ((((((((u.setCell ⟨T, 0, none⟩ (.int .i64 k)).setCell ⟨T, 1, none⟩ (.int .i64 s)).setCell ⟨T, 2, none⟩ (.int .i64 v)).setCell ⟨T, 3, none⟩ (.int .i64 ve)).setCell ⟨T, 4, none⟩ (.int .i64 nu)).setCell ⟨T, 5, none⟩ (.slice sa sn sc)).setCell ⟨T, 6, none⟩ (.slice qa qn qc)).setCell ⟨T, 7, none⟩ (.int .i64 tg)) := by
  obtain ⟨_, _, _, _, _, _, _, _, _, _, _, _, h1, h2, h3, h4, h5, h6⟩ := h
  refine ⟨k, s, v, ve, nu, tg, sa, sn, sc, qa, qn, qc, own_set8 h1 _ _ _ _ _ _ _ _, ?_, ?_, ?_, ?_, own_set8_ne h6 (by omega) _ _ _ _ _ _ _ _⟩
  · obtain ⟨rs, h7, h8⟩ := hS; exact ⟨rs, h7, ownsRow_set8 h8 h1 (by decide) _ _ _ _ _ _ _ _⟩
  · obtain ⟨rs, h7, h8⟩ := hQ; exact ⟨rs, h7, ownsRow_set8 h8 h1 (by decide) _ _ _ _ _ _ _ _⟩
  · repeat (first | with_reducible exact h4 | refine Rd.setCell ?_ (show x < T by omega) _)
  · repeat (first | with_reducible exact h5 | refine Kept.setCell_new ?_ (show w.heap.size ≤ T by omega) _)
theorem ThSt.put3 {x T n : Nat} {w u : World} {q : Int} (h : ThSt x w T n q u) (hx : x < w.heap.size) (hT : w.heap.size < T) (y : Int) : ThSt x w T n q (u.setCell ⟨T, 3, none⟩ (.int .i64 y)) := by
  obtain ⟨k, s, v, ve, nu, tg, sa, sn, sc, qa, qn, qc, h1, h2, h3, h4, h5, h6⟩ := h
  exact ⟨k, s, v, y, nu, tg, sa, sn, sc, qa, qn, qc, own_set h1 3 _, h2.setT h1 _ _, h3.setT h1 _ _, h4.setCell (show x < T by omega) _, h5.setCell_new (show w.heap.size ≤ T by omega) _, own_set_ne h6 (p := ⟨T, 3, none⟩) (show T ≠ w.heap.size by omega) _⟩
theorem ThSt.put4 {x T n : Nat} {w u : World} {q : Int} (h : ThSt x w T n q u) (hx : x < w.heap.size) (hT : w.heap.size < T) (y : Int) : ThSt x w T n q (u.setCell ⟨T, 4, none⟩ (.int .i64 y)) := by
  obtain ⟨k, s, v, ve, nu, tg, sa, sn, sc, qa, qn, qc, h1, h2, h3, h4, h5, h6⟩ := h
  exact ⟨k, s, v, ve, y, tg, sa, sn, sc, qa, qn, qc, own_set h1 4 _, h2.setT h1 _ _, h3.setT h1 _ _, h4.setCell (show x < T by omega) _, h5.setCell_new (show w.heap.size ≤ T by omega) _, own_set_ne h6 (p := ⟨T, 4, none⟩) (show T ≠ w.heap.size by omega) _⟩
theorem ThSt.pick {x T n : Nat} {w u u' : World} {q q' : Int} (h : ThSt x w T n q u) (hx : x < w.heap.size) (hT : w.heap.size < T) (hk : Kept x u u') (hr : Rd u' x q') : ThSt x w T n q' u' := by
  obtain ⟨k, s, v, ve, nu, tg, sa, sn, sc, qa, qn, qc, h1, h2, h3, h4, h5, h6⟩ := h
  exact ⟨k, s, v, ve, nu, tg, sa, sn, sc, qa, qn, qc, own_kept hk (by omega) h1, h2.kept hk hx, h3.kept hk hx, hr, h5.trans hk, own_kept hk (by omega) h6⟩
theorem ThSt.below {x T n : Nat} {w u u' : World} {q : Int} (h : ThSt x w T n q u) (hb : Below u.heap.size u u') : ThSt x w T n q u' := by
  obtain ⟨k, s, v, ve, nu, tg, sa, sn, sc, qa, qn, qc, h1, h2, h3, h4, h5, h6⟩ := h
  exact ⟨k, s, v, ve, nu, tg, sa, sn, sc, qa, qn, qc, own_below hb h1, h2.below hb, h3.below hb, h4.below hb, h5.of_below hb, own_below hb h6⟩
theorem ThSt.more {x T n n' : Nat} {w u : World} {q : Int} (h : ThSt x w T n q u) (hn : n ≤ n') : ThSt x w T n' q u := by
  obtain ⟨k, s, v, ve, nu, tg, sa, sn, sc, qa, qn, qc, h1, h2, h3, h4, h5, h6⟩ := h
  exact ⟨k, s, v, ve, nu, tg, sa, sn, sc, qa, qn, qc, h1, h2, h3.mono (Nat.le_refl _) hn, h4, h5, h6⟩
set_option maxHeartbeats 4000000 in
set_option maxRecDepth 100000 in
theorem l71Thing_any (x : Nat) (p kind to_ : Int) (w : World) (hr : Rd w x p) (hp0 : 0 ≤ p) (hp : p ≤ 80000000) :
    Calls Tryd.prog 58 #[.pointer (some ⟨x, 0, none⟩), .int .i64 kind, .int .i64 to_] w (ThingDrawn x p w) := by
  have hx := hr.lt
  have t0 : Kept x w w := Kept.refl _ _
  have r0 := hr
  have lx0 := r0.lt
  have hR := own_new w (.cells #[.int .i64 0, .int .i64 0, .int .i64 0, .int .i64 0, .int .i64 0, .slice none 0 0, .slice none 0 0, .int .i64 0] 36)
  go_enter Tryd.func58, Tryd.ntmps58
  go_wp2_with fail
  refine (l71Label_any _ _ _ (by (repeat (first | with_reducible exact r0 | with_reducible apply Rd.setCell | with_reducible apply Rd.alloc | with_reducible apply Rd.drew)); (all_goals (first | omega | (simp <;> omega)))) (by omega) (by omega)).mono ?_
  rintro e w1 ⟨s1, v1, rfl, pp1, lp1, up1, r1, k1⟩
  have z1 := k1.size
  try simp at z1
  have lx1 := r1.lt
  have z1_0 : w.heap.size < w1.heap.size := by omega
  have y1_0 : ¬ w.heap.size = x := by omega
  have t1 : Kept x w w1 := by
    refine Kept.trans ?_ k1
    · (repeat (first | with_reducible exact t0 | with_reducible refine Kept.setCell_new ?_ ?_ _ | with_reducible refine Kept.alloc ?_ _ | with_reducible refine Kept.drew ?_)); (all_goals (first | omega | (simp <;> omega)))
  obtain ⟨c1, f1⟩ := kcell k1
  replace hR := own_kept k1 (by omega) hR
  clear k1 c1 f1
  go_wp2_with fail
  refine (thingNew_any kind s1 v1 to_ w1).mono ?_
  rintro e w2 ⟨k', s', v', tg, sv, qv, ok, rfl, hS, hQ, b2⟩
  replace hR := own_below b2 hR
  have t2 : Kept x w w2 := t1.of_below b2
  have r2 := r1.below b2
  have z2 := b2.size
  clear b2 r1 t1
  replace hS := hS.mono (base' := w.heap.size) (by omega)
  replace hQ := hQ.mono (base' := w.heap.size) (by omega) (Nat.le_refl 0)
  obtain ⟨sa, sn, sc, rfl, hsn⟩ := hS.slice
  obtain ⟨qa, qn, qc, rfl, hqn⟩ := hQ.slice
  go_upto_if 20 with fail
  have hB : Below w2.heap.size w2 (w2.alloc (.cells #[.int .i64 k', .int .i64 s', .int .i64 v', .int .i64 0, .int .i64 0, .slice sa sn sc, .slice qa qn qc, .int .i64 tg] 36)) := (Below.refl _ _).alloc (Nat.le_refl _) _
  have hst : ThSt x w w2.heap.size 0 pp1 (w2.alloc (.cells #[.int .i64 k', .int .i64 s', .int .i64 v', .int .i64 0, .int .i64 0, .slice sa sn sc, .slice qa qn qc, .int .i64 tg] 36)) :=
    ⟨_, _, _, _, _, _, _, _, _, _, _, _, own_new _ _, hS.below hB, hQ.below hB, r2.below hB, t2.of_below hB, own_below hB hR⟩
  obtain ⟨T, eT⟩ : ∃ T, T = w2.heap.size := ⟨_, rfl⟩
  have zT : w.heap.size < T := by have := own_lt hR; omega
  go_cut [7] from 8 to 26 (fun c wc => c = .pointer (some ⟨T, 0, none⟩) ∧ ThSt x w T 0 pp1 wc)
  case first =>
    clear hB hS hQ r2 t2 hR
    rw [← eT] at hst
    rw [← eT]
    clear eT
    cases hk0 : (k' == 0)
    · go_wp2_with fail
      go_meet
      exact ⟨rfl, hst⟩
    · go_wp2_with fail
      refine (thingNew_any _ _ _ _ _).mono ?_
      rintro e w3 ⟨k3, s3, v3, tg3, sv3, qv3, ok3, rfl, hS, hQ, b3⟩
      replace hst := hst.below b3
      replace hS := hS.mono (base' := w.heap.size) (by simp <;> omega)
      replace hQ := hQ.mono (base' := w.heap.size) (by simp <;> omega) (Nat.le_refl 0)
      obtain ⟨sa, sn, sc, rfl, hsn⟩ := hS.slice
      obtain ⟨qa, qn, qc, rfl, hqn⟩ := hQ.slice
      have hst2 := hst
      obtain ⟨_, _, _, _, _, _, _, _, _, _, _, _, hT, _, _, _, _, _⟩ := hst2
      obtain ⟨cT, fT⟩ := own_cells hT
      clear b3
      go_wp2_with fail
      go_meet
      exact ⟨rfl, hst.put8 hx zT hS hQ⟩
  case rest =>
  clear hB hS hQ r2 t2 hR hst eT z2 hsn hqn
  obtain ⟨rfl, hst⟩ := hcut
  have HST := hid hst
  obtain ⟨k, s, v, ve, nu, tg, sa, sn, sc, qa, qn, qc, hT, hS, hQ, hr2, hk2, hR⟩ := hst
  obtain ⟨cT, fT⟩ := own_cells hT
  have zR := own_lt hR
  have zW := own_lt hT
  go_upto_block 0 with fail
  go_cut [7] from 28 to 58 (fun c wx => c = .pointer (some ⟨T, 0, none⟩) ∧ ∃ q, pp1 ≤ q ∧ q ≤ pp1 + 5 ∧ ThSt x w T 3 q wx)
  case first =>
    cases hk1 : (k == 1)
    · cases hk4 : (k == 4)
      · cases hk3 : (k == 3)
        · go_wp2_with fail
          go_meet
          exact ⟨rfl, pp1, by omega, by omega, HST.out.more (by omega)⟩
        · go_wp2_with fail
          refine (pick_any _ _ _ _ hr2 (by omega) (by omega)).mono ?_
          rintro e w4 ⟨m, rfl, _, _, _, r4, k4⟩
          have hst := HST.out.pick hx zT k4 r4
          have hT4 := own_kept k4 (by omega) hT
          obtain ⟨cT4, fT4⟩ := own_cells hT4
          go_wp2_with fail
          go_meet
          exact ⟨rfl, pp1 + 1, by omega, by omega, (hst.put4 hx zT _).more (by omega)⟩
      · go_wp2_with fail
        refine (pick_any _ _ _ _ hr2 (by omega) (by omega)).mono ?_
        rintro e w4 ⟨mm, rfl, hm0, hm1, _, r4, k4⟩
        have hst := HST.out.pick hx zT k4 r4
        replace hm1 := hm1 (by omega)
        clear cT fT k4 hT hS hQ hr2 hk2 hR HST
        go_wp2_with fail
        go_loopw [9] (fun i wr => ∃ m : Int, i = .int .i64 m ∧ 0 ≤ m ∧ m ≤ 3 ∧ ∃ q, pp1 + 1 ≤ q ∧ q ≤ pp1 + 1 + (3 - m) ∧ ThSt x w T (3 - m).toNat q wr) (fun i _ => (intOf i).toNat)
        case atStart => exact ⟨mm, rfl, by omega, by omega, pp1 + 1, by omega, by omega, hst.more (by omega)⟩
        case round =>
          clear hst r4 hm0 hm1 zR zW
          obtain ⟨m, rfl, hm0, hm3, q, hq1, hq2, hst⟩ := hrel
          cases hm : decide (0 < m)
          · go_wp2_with fail
            go_meet
            exact ⟨rfl, q, by omega, by omega, hst.more (by omega)⟩
          · have hm' : 0 < m := by simpa using hm
            obtain ⟨kk, ss, vv, ve, nu, tg, sa, sn, sc, qa, qn, qc, hT, hS, hQ, hr2, hk2, hR⟩ := hst
            go_upto_region 12 with fail
            refine wp_region_each (by kernel_rfl) (by kernel_rfl) (by kernel_rfl) (fun b ac u => ∃ t45 t46 t47 t48 t49 t50 t51 : Value, ac = ⟨#[.pointer (some ⟨x, 0, none⟩), .int .i64 kind, .int .i64 to_, undef, undef, undef, .pointer (some ⟨w.heap.size, 0, none⟩), .pointer (some ⟨T, 0, none⟩), u8, .int .i64 m, u10, u11, u12, u13, u14, u15, u16, u17, u18, u19, u20, u21, u22, u23, u24, u25, .pointer (some ⟨T, 0, none⟩), .int .i64 k, .bool false, .bool false, undef, undef, undef, undef, undef, undef, undef, .bool true, .bool true, .pointer (some ⟨x, 0, none⟩), .int .i64 mm, .int .i64 m, .bool true, u43, u44, t45, t46, t47, t48, t49, t50, t51, undef, undef, undef, undef, undef, undef, undef], []⟩ ∧ (Kept x w u ∧ RdC x q b [3] u ∧ SlO u w.heap.size (.slice sa sn sc) ∧ u.heap[w.heap.size]? = some (.cells #[.int .i64 0, .int .i64 0, .int .i64 0, .int .i64 0, .int .i64 0, .slice none 0 0, .slice none 0 0, .int .i64 0] 36 (0, 0)) ∧ (b[5]? = some false → QuO u w.heap.size (.slice qa qn qc) (3 - m).toNat) ∧ (b[7]? = some false → u.heap[T]? = some (.cells #[.int .i64 kk, .int .i64 ss, .int .i64 vv, .int .i64 ve, .int .i64 nu, .slice sa sn sc, .slice qa qn qc, .int .i64 tg] 36 (0, 0)))) ∧ (b[0]? = some true → b[7]? = some false → t45 = .pointer (some ⟨T, 6, none⟩)) ∧ (b[1]? = some true → t46 = .slice qa qn qc) ∧ (b[2]? = some true → t47 = .pointer (some ⟨x, 0, none⟩)) ∧ (b[3]? = some true → ∃ y : Int, t48 = .int .i64 y) ∧ (b[4]? = some true → (b[5]? = some false → ∃ (B : Nat) (y : Int), t49 = .slice (some ⟨B, 0, none⟩) 1 1 ∧ u.heap[B]? = some (.cells #[.int .i64 y] 3 (0, 0)))) ∧ (b[5]? = some true → ∃ (a : Option Addr) (n' c : Nat), t50 = .slice a n' c ∧ QuO u w.heap.size (.slice a n' c) (3 - (m - 1)).toNat) ∧ (b[6]? = some true → t51 = .pointer (some ⟨T, 6, none⟩)) ∧ (b[7]? = some true → ∃ (a : Option Addr) (n' c : Nat), QuO u w.heap.size (.slice a n' c) (3 - (m - 1)).toNat ∧ u.heap[T]? = some (.cells #[.int .i64 kk, .int .i64 ss, .int .i64 vv, .int .i64 ve, .int .i64 nu, .slice sa sn sc, .slice a n' c, .int .i64 tg] 36 (0, 0)))) ?h0_1 ⟨?o1_0, ?o1_1, ?o1_2, ?o1_3, ?o1_4, ?o1_5, ?o1_6, ?o1_7, trivial⟩ ?hend_1
            case h0_1 => exact ⟨u45, u46, u47, u48, u49, u50, u51, rfl, ⟨hk2.drew, RdC.start hr2.drew, hS.below (Below.refl _ _).drew, hR, fun _ => hQ.below (Below.refl _ _).drew, fun _ => hT⟩, by simp, by simp, by simp, by simp, by simp, by simp, by simp, by simp⟩
            case o1_0 =>
              rintro b ac u hbl hbi hcl he ⟨t45, t46, t47, t48, t49, t50, t51, rfl, hk, g0, g1, g2, g3, g4, g5, g6, g7⟩ K hK
              have hla := last_false (L := 7) hcl hbl rfl (by kernel_rfl) hbi
              clear he
              go_simp
              exact hK _ _ ⟨_, _, _, _, _, _, _, rfl, ⟨hk.1, hk.2.1.other (by decide) (Below.refl _ _), hk.2.2.1, hk.2.2.2.1, fun h => hk.2.2.2.2.1 (by simpa using h), fun h => hk.2.2.2.2.2 (by simpa using h)⟩, fun _ _ => rfl, fun h => g1 (by simpa using h), fun h => g2 (by simpa using h), fun h => g3 (by simpa using h), fun h => (fun g => (fun h5 => g (by simpa using h5))) (g4 (by simpa using h)), fun h => g5 (by simpa using h), fun h => g6 (by simpa using h), fun h => (fun g => by simp [hla] at h) (g7 (by simpa using h))⟩
            case o1_1 =>
              rintro b ac u hbl hbi hcl he ⟨t45, t46, t47, t48, t49, t50, t51, rfl, hk, g0, g1, g2, g3, g4, g5, g6, g7⟩ K hK
              have hla := last_false (L := 7) hcl hbl rfl (by kernel_rfl) hbi
              have p0 : b[0]? = some true := by simp [Region.binds] at he; simp [he]
              obtain rfl := g0 p0 hla
              clear he
              have hT := hk.2.2.2.2.2 hla
              have cT := (own_cells hT).1
              have fT := (own_cells hT).2
              clear hT
              go_simp
              exact hK _ _ ⟨_, _, _, _, _, _, _, rfl, ⟨hk.1, hk.2.1.other (by decide) (Below.refl _ _), hk.2.2.1, hk.2.2.2.1, fun h => hk.2.2.2.2.1 (by simpa using h), fun h => hk.2.2.2.2.2 (by simpa using h)⟩, fun h _ => (fun g => g) (g0 (by simpa using h) hla), fun _ => rfl, fun h => g2 (by simpa using h), fun h => g3 (by simpa using h), fun h => (fun g => (fun h5 => g (by simpa using h5))) (g4 (by simpa using h)), fun h => g5 (by simpa using h), fun h => g6 (by simpa using h), fun h => (fun g => by simp [hla] at h) (g7 (by simpa using h))⟩
            case o1_2 =>
              rintro b ac u hbl hbi hcl he ⟨t45, t46, t47, t48, t49, t50, t51, rfl, hk, g0, g1, g2, g3, g4, g5, g6, g7⟩ K hK
              have hla := last_false (L := 7) hcl hbl rfl (by kernel_rfl) hbi
              clear he
              go_simp
              exact hK _ _ ⟨_, _, _, _, _, _, _, rfl, ⟨hk.1, hk.2.1.other (by decide) (Below.refl _ _), hk.2.2.1, hk.2.2.2.1, fun h => hk.2.2.2.2.1 (by simpa using h), fun h => hk.2.2.2.2.2 (by simpa using h)⟩, fun h _ => (fun g => g) (g0 (by simpa using h) hla), fun h => g1 (by simpa using h), fun _ => rfl, fun h => g3 (by simpa using h), fun h => (fun g => (fun h5 => g (by simpa using h5))) (g4 (by simpa using h)), fun h => g5 (by simpa using h), fun h => g6 (by simpa using h), fun h => (fun g => by simp [hla] at h) (g7 (by simpa using h))⟩
            case o1_3 =>
              rintro b ac u hbl hbi hcl he ⟨t45, t46, t47, t48, t49, t50, t51, rfl, hk, g0, g1, g2, g3, g4, g5, g6, g7⟩ K hK
              have hla := last_false (L := 7) hcl hbl rfl (by kernel_rfl) hbi
              have p2 : b[2]? = some true := by simp [Region.binds] at he; simp [he]
              obtain rfl := g2 p2
              clear he
              obtain ⟨hk1, ⟨qq, hq3, hq4, hr⟩, hk3⟩ := hk
              have hcn := Cnt_le b [3]
              simp only [List.length_cons, List.length_nil] at hcn
              go_simp
              refine (pick_any _ _ _ _ hr (by omega) (by omega)).mono ?_
              rintro e u' ⟨y, rfl, _, _, _, hr', hS'⟩
              go_simp
              exact hK _ _ ⟨_, _, _, _, _, _, _, rfl, ⟨hk1.trans hS', RdC.run hbi (by decide) (by decide) hq3 hq4 hr', hk3.1.kept hS' hx, own_kept hS' (by omega) hk3.2.1, fun h => (hk3.2.2.1 (by simpa using h)).kept hS' hx, fun h => own_kept hS' (by omega) (hk3.2.2.2 (by simpa using h))⟩, fun h _ => (fun g => g) (g0 (by simpa using h) hla), fun h => g1 (by simpa using h), fun h => g2 (by simpa using h), fun _ => ⟨_, rfl⟩, fun h => (by have hn := hcl 4 _ rfl (by simpa using h); simp [Region.binds, hbi] at hn), fun h => (by have hn := hcl 5 _ rfl (by simpa using h); simp [Region.binds, hbi] at hn), fun h => g6 (by simpa using h), fun h => (fun g => by simp [hla] at h) (g7 (by simpa using h))⟩
            case o1_4 =>
              rintro b ac u hbl hbi hcl he ⟨t45, t46, t47, t48, t49, t50, t51, rfl, hk, g0, g1, g2, g3, g4, g5, g6, g7⟩ K hK
              have hla := last_false (L := 7) hcl hbl rfl (by kernel_rfl) hbi
              have p3 : b[3]? = some true := by simp [Region.binds] at he; simp [he]
              obtain ⟨y, rfl⟩ := g3 p3
              clear he
              go_simp
              have hR' := (Below.refl u.heap.size u).alloc (Nat.le_refl _) (.cells #[.int .i64 y] 3)
              exact hK _ _ ⟨_, _, _, _, _, _, _, rfl, ⟨hk.1.of_below hR', hk.2.1.other (by decide) hR', hk.2.2.1.below hR', own_below hR' hk.2.2.2.1, fun h => (hk.2.2.2.2.1 (by simpa using h)).below hR', fun h => own_below hR' (hk.2.2.2.2.2 (by simpa using h))⟩, fun h _ => (fun g => g) (g0 (by simpa using h) hla), fun h => g1 (by simpa using h), fun h => g2 (by simpa using h), fun h => g3 (by simpa using h), fun _ => fun _ => ⟨_, _, rfl, own_new _ _⟩, fun h => (by have hn := hcl 5 _ rfl (by simpa using h); simp [Region.binds, hbi] at hn), fun h => g6 (by simpa using h), fun h => (fun g => by simp [hla] at h) (g7 (by simpa using h))⟩
            case o1_5 =>
              rintro b ac u hbl hbi hcl he ⟨t45, t46, t47, t48, t49, t50, t51, rfl, hk, g0, g1, g2, g3, g4, g5, g6, g7⟩ K hK
              have hla := last_false (L := 7) hcl hbl rfl (by kernel_rfl) hbi
              have p1 : b[1]? = some true := by simp [Region.binds] at he; simp [he]
              have p4 : b[4]? = some true := by simp [Region.binds] at he; simp [he]
              obtain rfl := g1 p1
              obtain hB := g4 p4
              clear he
              obtain ⟨zs, hz, hown⟩ := hk.2.2.2.2.1 hbi
              obtain ⟨B, y, rfl, hB'⟩ := hB hbi
              obtain ⟨i0, hi, hz0, hz1, hz2⟩ := info_parts infoInt
              refine wp_append_own _ _ _ 34 rfl w.heap.size 3 i0 (.int .i64 0) 1 8 (by kernel_rfl) hi hz0 hz1 hz2 rfl (by decide) _ _ _ rfl hown ⟨B, 0, none⟩ 1 1 [.int .i64 y] rfl rfl (cell_one hB') (fun v hv => by simp at hv; subst hv; rfl) (by unfold maxLen; omega) (by omega) hk.1.size ?_
              intro v' u' hown' hgr _
              have hbw := grown_below hgr (fun k hk => (hown.lt k hk).1) hk.1.size
              have hq' : QuO u' w.heap.size v' (3 - (m - 1)).toNat := ⟨zs ++ [y], by simp only [List.length_append, List.length_cons, List.length_nil]; omega, by simpa using hown'⟩
              obtain ⟨a', n', c', rfl, _⟩ := hq'.slice
              have hS' : SlO u' w.heap.size (.slice sa sn sc) := by obtain ⟨rs, h7, h8⟩ := hk.2.2.1; exact ⟨rs, h7, ownsRow_grown hown hgr h8 (by decide)⟩
              exact hK _ _ ⟨_, _, _, _, _, _, _, rfl, ⟨hk.1.under hbw, hk.2.1.under (by decide) hbw hx, hS', own_grown hown hgr hk.2.2.2.1 (by decide), fun h => by simp [hbl] at h, fun h => own_grown hown hgr (hk.2.2.2.2.2 (by simpa using h)) (by decide)⟩, fun h _ => (fun g => g) (g0 (by simpa using h) hla), fun h => g1 (by simpa using h), fun h => g2 (by simpa using h), fun h => g3 (by simpa using h), fun h => (fun g => (fun h5 => by simp [hbl] at h5)) (g4 (by simpa using h)), fun _ => ⟨_, _, _, rfl, hq'⟩, fun h => g6 (by simpa using h), fun h => (fun g => by simp [hla] at h) (g7 (by simpa using h))⟩
            case o1_6 =>
              rintro b ac u hbl hbi hcl he ⟨t45, t46, t47, t48, t49, t50, t51, rfl, hk, g0, g1, g2, g3, g4, g5, g6, g7⟩ K hK
              have hla := last_false (L := 7) hcl hbl rfl (by kernel_rfl) hbi
              clear he
              go_simp
              exact hK _ _ ⟨_, _, _, _, _, _, _, rfl, ⟨hk.1, hk.2.1.other (by decide) (Below.refl _ _), hk.2.2.1, hk.2.2.2.1, fun h => hk.2.2.2.2.1 (by simpa using h), fun h => hk.2.2.2.2.2 (by simpa using h)⟩, fun h _ => (fun g => g) (g0 (by simpa using h) hla), fun h => g1 (by simpa using h), fun h => g2 (by simpa using h), fun h => g3 (by simpa using h), fun h => (fun g => (fun h5 => g (by simpa using h5))) (g4 (by simpa using h)), fun h => g5 (by simpa using h), fun _ => rfl, fun h => (fun g => by simp [hla] at h) (g7 (by simpa using h))⟩
            case o1_7 =>
              rintro b ac u hbl hbi hcl he ⟨t45, t46, t47, t48, t49, t50, t51, rfl, hk, g0, g1, g2, g3, g4, g5, g6, g7⟩ K hK
              have hla := hbi
              have p6 : b[6]? = some true := by simp [Region.binds] at he; simp [he]
              have p5 : b[5]? = some true := by simp [Region.binds] at he; simp [he]
              obtain rfl := g6 p6
              obtain ⟨a, n', c, rfl, hq'⟩ := g5 p5
              clear he
              have hT := hk.2.2.2.2.2 hbi
              have cT := (own_cells hT).1
              have fT := (own_cells hT).2
              go_simp
              exact hK _ _ ⟨_, _, _, _, _, _, _, rfl, ⟨hk.1.setCell_new (show w.heap.size ≤ T by omega) _, hk.2.1.set (by decide) (show x < T by omega) _, hk.2.2.1.setT hT _ _, own_set_ne hk.2.2.2.1 (p := ⟨T, 6, none⟩) (show T ≠ w.heap.size by omega) _, (fun h => by rw [List.getElem?_set_ne (by decide), p5] at h; cases h), fun h => by simp [hbl] at h⟩, fun _ h => (by simp [hbl] at h), fun h => g1 (by simpa using h), fun h => g2 (by simpa using h), fun h => g3 (by simpa using h), fun h => (fun g => (fun h => by rw [List.getElem?_set_ne (by decide), p5] at h; cases h)) (g4 (by simpa using h)), fun h => (fun g => ⟨a, n', c, rfl, hq'.setT hT _ _⟩) (g5 (by simpa using h)), fun h => g6 (by simpa using h), fun _ => ⟨a, n', c, hq'.setT hT _ _, own_set hT 6 _⟩⟩
            rintro ac u ⟨t45, t46, t47, t48, t49, t50, t51, rfl, hk, g0, g1, g2, g3, g4, g5, g6, g7⟩
            clear g0
            replace g1 := g1 (by simp)
            replace g2 := g2 (by simp)
            replace g3 := g3 (by simp)
            replace g4 := g4 (by simp)
            replace g5 := g5 (by simp)
            replace g6 := g6 (by simp)
            replace g7 := g7 (by simp)
            obtain ⟨a', n', c', hq', hT'⟩ := g7
            obtain ⟨hk1, ⟨qq, hq3, hq4, hr'⟩, hS', hR', _, _⟩ := hk
            have hq5 : qq ≤ q + 1 := cnt_one hq4
            have hst : ThSt x w T (3 - (m - 1)).toNat qq u := ⟨_, _, _, _, _, _, _, _, _, _, _, _, hT', hS', hq', hr', hk1, hR'⟩
            clear hq4 hT' hS' hq' hr' hk1 hR' hT hS hQ hr2 hk2 hR g1 g2 g3 g4 g5 g6
            go_wp2_with fail
            go_roundw
            case rel => exact ⟨m - 1, by go_num, by omega, by omega, qq, by omega, by omega, hst⟩
            case measure => simp [intOf]; omega
    · go_wp2_with fail
      refine (pick_any _ _ _ _ hr2 (by omega) (by omega)).mono ?_
      rintro e w4 ⟨m, rfl, hm0, hm1, _, r4, k4⟩
      have hst := HST.out.pick hx zT k4 r4
      have hT4 := own_kept k4 (by omega) hT
      have hT5 := own_set hT4 4 (.int .i64 m)
      obtain ⟨cT4, fT4⟩ := own_cells hT4
      clear cT fT k4
      replace hm1 := hm1 (by omega)
      go_wp2_with fail
      refine (pick_any _ _ _ _ (r4.setCell (show x < T by omega) _) (by omega) (by omega)).mono ?_
      rintro e w5 ⟨m', rfl, hm0', hm1', _, r5, k5⟩
      replace hst := (hst.put4 hx zT _).pick hx zT k5 r5
      replace hT5 := own_kept k5 (by omega) hT5
      obtain ⟨cT5, fT5⟩ := own_cells hT5
      clear k5
      go_wp2_with fail
      go_meet
      exact ⟨rfl, pp1 + 1 + 1, by omega, by omega, (hst.put3 hx zT _).more (by omega)⟩
  case rest =>
  clear hT hS hQ hr2 hk2 hR cT fT zW zR HST
  obtain ⟨rfl, q, hq1, hq2, hst⟩ := hcut
  obtain ⟨k, s, v, ve, nu, tg, sa, sn, sc, qa, qn, qc, hT, hS, hQ, hr2, hk2, hR⟩ := hst
  obtain ⟨cT, fT⟩ := own_cells hT
  obtain ⟨cR, fR⟩ := own_cells hR
  go_wp2_with fail
  have hE := own_set8 hR (.int .i64 k) (.int .i64 s) (.int .i64 v) (.int .i64 ve) (.int .i64 nu) (.slice sa sn sc) (.slice qa qn qc) (.int .i64 tg)
  obtain ⟨ocE, _⟩ := own_cells hE
  refine bodyPost_ret (v := .agg #[.int .i64 k, .int .i64 s, .int .i64 v, .int .i64 ve, .int .i64 nu, .slice sa sn sc, .slice qa qn qc, .int .i64 tg]) ?_ rfl ?_
  · clear hE cT fT cR fR
    simp only [results, Tryd.results58]
    go_simp
  · refine ⟨k, s, v, ve, nu, tg, _, _, rfl, ?_, ?_, q, by omega, by omega, ?_, ?_⟩
    · obtain ⟨rs, h7, h8⟩ := hS; exact ⟨rs, h7, ownsRow_set8 h8 hR (by decide) _ _ _ _ _ _ _ _⟩
    · obtain ⟨rs, h7, h8⟩ := hQ; exact ⟨rs, h7, ownsRow_set8 h8 hR (by decide) _ _ _ _ _ _ _ _⟩
    · repeat (first | with_reducible exact hr2 | refine Rd.setCell ?_ (show x < w.heap.size by omega) _)
    · repeat (first | with_reducible exact hk2 | refine Kept.setCell_new ?_ (show w.heap.size ≤ w.heap.size by omega) _)
end Go.Proofs.YtcgmnpppdoadhaaDoor
