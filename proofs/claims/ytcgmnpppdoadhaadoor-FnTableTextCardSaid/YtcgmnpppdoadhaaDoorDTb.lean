/- The drawn table: a contract of the reference's l71Table. No condition but that the reader's place stays small. -/
import Derived.Test.YtcgmnpppdoadhaaDoorTbO
import Derived.Test.YtcgmnpppdoadhaaDoorDTh
import Derived.Test.YtcgmnpppdoadhaaDoorDThO
import Derived.OwnWalk
namespace Go.Proofs.YtcgmnpppdoadhaaDoor
set_option maxRecDepth 100000
open Go.RowKit
set_option linter.unusedVariables false
set_option linter.unusedSimpArgs false

/-- n numbers that a draw owns. -/
def KiO (w : World) (base n : Nat) (v : Value) : Prop := ∃ zs : List Int, zs.length = n ∧ w.ownsRow base 3 1 v n (zs.map (Value.int .i64))
theorem KiO.below {u u' : World} {base n : Nat} {v : Value} (h : KiO u base n v) (hb : Below u.heap.size u u') : KiO u' base n v := by
  obtain ⟨zs, h1, h2⟩ := h; exact ⟨zs, h1, ownsRow_below h2 hb⟩
theorem KiO.kept {y : Nat} {u u' : World} {base n : Nat} {v : Value} (h : KiO u base n v) (hk : Kept y u u') (hy : y < base) : KiO u' base n v := by
  obtain ⟨zs, h1, h2⟩ := h; exact ⟨zs, h1, ownsRow_kept h2 hk hy⟩
theorem KiO.grown {u u' : World} {base n m : Nat} {v t : Value} {xs : List Value} (h : KiO u base n v) (hown : u.ownsRow base 36 8 t m xs) (hg : u.grownBy u' t.ownBlock) : KiO u' base n v := by
  obtain ⟨zs, h1, h2⟩ := h; exact ⟨zs, h1, ownsRow_grown hown hg h2 (by decide)⟩
theorem KiO.slice {u : World} {base n : Nat} {v : Value} (h : KiO u base n v) : ∃ a c, v = .slice a n c := by
  obtain ⟨rs, h1, _, h2⟩ := h
  rcases h2 with ⟨rfl, h3⟩ | ⟨g, cap, cur, rfl, _⟩
  · exact ⟨_, _, by rw [h3]⟩
  · exact ⟨_, _, rfl⟩
theorem KiO.get {u : World} {base n c : Nat} {a : Option Addr} (h : KiO u base n (.slice a n c)) {j : Nat} (hj : j < n) : ∃ (g : Nat) (z : Int), a = some ⟨g, 0, none⟩ ∧ u.cell? ⟨g, j, none⟩ = some (.int .i64 z) := by
  obtain ⟨zs, h1, _, h3⟩ := h
  rcases h3 with ⟨h3, h4⟩ | ⟨g, cap, cur, h3, hbg, hgg, h5, hcap, hsz, htake⟩
  · omega
  · cases h3
    refine ⟨g, zs[j]'(by omega), rfl, ?_⟩
    rw [(own_cells hgg).1]
    have e : cur.toList[j]? = (cur.toList.take (n * 1))[j]? := by
      rw [List.getElem?_take, if_pos (by omega)]
    rw [← Array.getElem?_toList, e, htake]
    simp [h1, hj]
/-- What a draw of a table leaves. -/
def TableDrawn (x : Nat) (p : Int) (w : World) (e : Ending) (w' : World) : Prop :=
  ∃ (a : Option Addr) (n c : Nat), e = .returned (.slice a n c) ∧ 3 ≤ n ∧ n ≤ 8 ∧ TbO w' w.heap.size n (.slice a n c) ∧ ∃ q : Int, p ≤ q ∧ q ≤ p + 1000 ∧ Rd w' x q ∧ Kept x w w'
/-- The right that is being drawn, in its block. -/
def XSt (x : Nat) (wr : World) (X : Nat) (lo hi : Int) (r : Rt) (u : World) : Prop :=
  u.heap[X]? = some (.cells #[.int .i64 r.t, .int .i64 r.v, .bool r.r, .bool r.w, .bool r.k] 38 (0, 0)) ∧ Kept x wr u ∧ ∃ q : Int, lo ≤ q ∧ q ≤ hi ∧ Rd u x q
/-- The table that is being drawn. -/
def TSt (x : Nat) (w : World) (n : Nat) (t : Value) (lo hi : Int) (u : World) : Prop :=
  TbO u w.heap.size n t ∧ Kept x w u ∧ ∃ q : Int, lo ≤ q ∧ q ≤ hi ∧ Rd u x q
theorem XSt.more {x : Nat} {wr : World} {X : Nat} {lo hi lo' hi' : Int} {r : Rt} {u : World} (h : XSt x wr X lo hi r u) (h1 : lo' ≤ lo) (h2 : hi ≤ hi') : XSt x wr X lo' hi' r u := by
  obtain ⟨a, b, q, h3, h4, h5⟩ := h; exact ⟨a, b, q, by omega, by omega, h5⟩
theorem XSt.put0 {x : Nat} {wr : World} {X : Nat} {lo hi : Int} {r : Rt} {u : World} (h : XSt x wr X lo hi r u) (hx : x < wr.heap.size) (hX : wr.heap.size ≤ X) (y : Int) : XSt x wr X lo hi { r with t := y } (u.setCell ⟨X, 0, none⟩ (.int .i64 y)) := by
  obtain ⟨a, b, q, h3, h4, h5⟩ := h; exact ⟨own_set a 0 _, b.setCell_new hX _, q, h3, h4, h5.setCell (show x < X by omega) _⟩
theorem XSt.put1 {x : Nat} {wr : World} {X : Nat} {lo hi : Int} {r : Rt} {u : World} (h : XSt x wr X lo hi r u) (hx : x < wr.heap.size) (hX : wr.heap.size ≤ X) (y : Int) : XSt x wr X lo hi { r with v := y } (u.setCell ⟨X, 1, none⟩ (.int .i64 y)) := by
  obtain ⟨a, b, q, h3, h4, h5⟩ := h; exact ⟨own_set a 1 _, b.setCell_new hX _, q, h3, h4, h5.setCell (show x < X by omega) _⟩
theorem XSt.pick {x : Nat} {wr : World} {X : Nat} {lo hi : Int} {r : Rt} {u u' : World} (h : XSt x wr X lo hi r u) (hx : x < X) (hk : Kept x u u') {q : Int} (h1 : lo ≤ q) (h2 : q ≤ hi) (hr : Rd u' x q) : XSt x wr X lo hi r u' := by
  obtain ⟨a, b, _⟩ := h; exact ⟨own_kept hk (by omega) a, b.trans hk, q, h1, h2, hr⟩
theorem TSt.more {x : Nat} {w : World} {n : Nat} {t : Value} {lo hi lo' hi' : Int} {u : World} (h : TSt x w n t lo hi u) (h1 : lo' ≤ lo) (h2 : hi ≤ hi') : TSt x w n t lo' hi' u := by
  obtain ⟨a, b, q, h3, h4, h5⟩ := h; exact ⟨a, b, q, by omega, by omega, h5⟩
/-- The table, where a slot of it is being written: its block G, the block g of the thing's slots. -/
def ISt (x : Nat) (w : World) (n : Nat) (t : Value) (G : Nat) (csG : Array Value) (g m : Nat) (u : World) : Prop :=
  TbO u w.heap.size n t ∧ Kept x w u ∧ u.heap[G]? = some (.cells csG 36 (0, 0)) ∧ ∃ cs : Array Value, u.heap[g]? = some (.cells cs 38 (0, 0)) ∧ m ≤ cs.size
theorem ISt.below {x : Nat} {w : World} {n : Nat} {t : Value} {G : Nat} {csG : Array Value} {g m : Nat} {u u' : World} (h : ISt x w n t G csG g m u) (hb : Below u.heap.size u u') : ISt x w n t G csG g m u' := by
  obtain ⟨a, b, c, cs, d, e⟩ := h; exact ⟨a.below hb, b.of_below hb, own_below hb c, cs, own_below hb d, e⟩
theorem ISt.kept {x : Nat} {w : World} {n : Nat} {t : Value} {G : Nat} {csG : Array Value} {g m : Nat} {u u' : World} (h : ISt x w n t G csG g m u) (hk : Kept x u u') (hx : x < w.heap.size) (hG : w.heap.size ≤ G) (hg : w.heap.size ≤ g) : ISt x w n t G csG g m u' := by
  obtain ⟨a, b, c, cs, d, e⟩ := h; exact ⟨a.kept hk hx, b.trans hk, own_kept hk (by omega) c, cs, own_kept hk (by omega) d, e⟩
theorem ISt.setR {x : Nat} {w : World} {n : Nat} {t : Value} {G : Nat} {csG : Array Value} {g m : Nat} {u : World} (h : ISt x w n t G csG g m u) (hg : w.heap.size ≤ g) (j : Nat) (r : Rt) : ISt x w n t G csG g m (setR u g (j * 5) r) := by
  obtain ⟨a, b, c, cs, d, e⟩ := h; exact ⟨a.setR d _ _, b.setR hg _ _, own_setR_ne c (own_ne d c (by decide)) _ _, _, own_setR d _ _, by simpa using e⟩
theorem wrap_sm {z : Int} (h0 : -1000000 ≤ z) (h1 : z ≤ 1000000) : IntKind.i64.wrap z = z := by simp [IntKind.wrap, IntKind.bits, IntKind.signed]; omega
theorem rem_small {z : Int} {n : Nat} (hz : 0 ≤ z) (hn : 0 < n) : ∃ m : Nat, z.tmod n = m ∧ m < n := by
  refine ⟨(z.tmod n).toNat, ?_, ?_⟩
  · have := Int.tmod_nonneg n hz; omega
  · have := Int.tmod_lt_of_pos z (b := n) (by omega); have := Int.tmod_nonneg n hz; omega
set_option maxHeartbeats 4000000 in
set_option maxRecDepth 100000 in
theorem l71Table_any (x : Nat) (p : Int) (w : World) (hr : Rd w x p) (hp0 : 0 ≤ p) (hp : p ≤ 70000000) :
    Calls Tryd.prog 30 #[.pointer (some ⟨x, 0, none⟩)] w (TableDrawn x p w) := by
  have hx := hr.lt
  have t0 : Kept x w w := Kept.refl _ _
  have r0 := hr
  have lx0 := r0.lt
  have hK := own_new w (.cells #[.int .i64 1, .int .i64 3, .int .i64 3] 3)
  go_enter Tryd.func30, Tryd.ntmps30
  go_wp2_with fail
  refine (pick_any _ _ _ _ (by (repeat (first | with_reducible exact r0 | with_reducible apply Rd.setCell | with_reducible apply Rd.alloc | with_reducible apply Rd.drew)); (all_goals (first | omega | (simp <;> omega)))) (by omega) (by omega)).mono ?_
  rintro e w1 ⟨m1, rfl, lo1, hi1, _, r1, k1⟩
  replace hi1 := hi1 (by omega)
  have z1 := k1.size
  try simp at z1
  have lx1 := r1.lt
  have z1_0 : w.heap.size < w1.heap.size := by omega
  have y1_0 : ¬ w.heap.size = x := by omega
  have t1 : Kept x w w1 := by
    refine Kept.trans ?_ k1
    · (repeat (first | with_reducible exact t0 | with_reducible refine Kept.setCell_new ?_ ?_ _ | with_reducible refine Kept.alloc ?_ _ | with_reducible refine Kept.drew ?_)); (all_goals (first | omega | (simp <;> omega)))
  obtain ⟨c1, f1⟩ := kcell k1
  replace hK := own_kept k1 (by omega) hK
  have hKi : KiO w1 w.heap.size 3 (.slice (some ⟨w.heap.size, 0, none⟩) 3 3) := ⟨[1, 3, 3], rfl, rfl, .inr ⟨w.heap.size, 3, _, rfl, Nat.le_refl _, hK, Nat.le_refl _, by unfold maxLen; omega, rfl, rfl⟩⟩
  clear k1 c1 f1 hK
  go_wp2_with fail
  go_loopw [3, 4] (fun kv i wr => ∃ m : Int, i = .int .i64 m ∧ 0 ≤ m ∧ m ≤ 5 ∧ ∃ (a : Option Addr) (n c : Nat), kv = .slice a n c ∧ 3 ≤ n ∧ (n : Int) ≤ 8 - m ∧ KiO wr w.heap.size n (.slice a n c) ∧ ∃ q : Int, p ≤ q ∧ q ≤ p + 6 - m ∧ Rd wr x q ∧ Kept x w wr) (fun _ i _ => (intOf i).toNat)
  case atStart => exact ⟨m1, rfl, by omega, by omega, _, _, _, rfl, by omega, by omega, hKi, p + 1, by omega, by omega, r1, t1⟩
  case round =>
    clear hKi r1 t1
    obtain ⟨m, rfl, hm0, hm5, a, n, c, rfl, hn3, hn8, hKi, q, hq1, hq2, hr2, hk2⟩ := hrel
    have hx2 := hr2.lt
    cases hm : decide (0 < m)
    · have zk := hk2.size
      go_wp2_with fail
      have hE := own_new wr (.cells #[] 36)
      have hA := (Below.refl wr.heap.size wr).alloc (Nat.le_refl _) (.cells #[] 36)
      have hTb := TbO.empty (base := w.heap.size) zk hE
      replace hKi := hKi.below hA
      replace hk2 := hk2.of_below hA
      replace hr2 := hr2.below hA
      clear hA hE
      generalize wr.heap.size = E0 at *
      go_loopw [5, 6] (fun tv i wr => ∃ k : Nat, i = .int .i64 (k : Int) ∧ k ≤ n ∧ ∃ (ta : Option Addr) (tc : Nat), tv = .slice ta k tc ∧ TbO wr w.heap.size k (.slice ta k tc) ∧ KiO wr w.heap.size n (.slice a n c) ∧ ∃ q : Int, p ≤ q ∧ q ≤ p + 6 + 10 * k ∧ Rd wr x q ∧ Kept x w wr) (fun _ i _ => ((n : Int) - intOf i).toNat)
      case atStart => exact ⟨0, rfl, by omega, _, _, rfl, hTb, hKi, q, by omega, by omega, hr2, hk2⟩
      case round =>
        clear hTb hKi hr2 hk2 zk hx2
        obtain ⟨k, rfl, hkn, ta, tc, rfl, hTb, hKi, q3, hq3, hq4, hr3, hk3⟩ := hrel
        have lx3 := hr3.lt
        by_cases hki : k < n
        · obtain ⟨g, z, rfl, cz⟩ := hKi.get hki
          cases h5 : (z == 5) <;>
          (go_wp2_with fail
           refine (l71Thing_any _ _ _ _ _ hr3 (by omega) (by omega)).mono ?_
           rintro e w4 ⟨tk, ts, tv, tve, tnu, ttg, sv, qv, rfl, hS, hQ, p4, lp4, up4, r4, k4⟩
           have zK := hk3.size
           replace hS := hS.mono (base' := w.heap.size) zK
           replace hQ := hQ.mono (base' := w.heap.size) zK (Nat.le_refl _)
           obtain ⟨sa, sn, sc, rfl, _⟩ := hS.slice
           obtain ⟨qa, qn, qc, rfl, _⟩ := hQ.slice
           have hB := (Below.refl w4.heap.size w4).alloc (Nat.le_refl _) (.cells #[.int .i64 tk, .int .i64 ts, .int .i64 tv, .int .i64 tve, .int .i64 tnu, .slice sa sn sc, .slice qa qn qc, .int .i64 ttg] 36)
           have hY := own_new w4 (.cells #[.int .i64 tk, .int .i64 ts, .int .i64 tv, .int .i64 tve, .int .i64 tnu, .slice sa sn sc, .slice qa qn qc, .int .i64 ttg] 36)
           have h0 : TcO _ w.heap.size ⟨tk, ts, tv, tve, tnu, sa, sn, sc, qa, qn, qc, ttg⟩ := ⟨hS.below hB, hQ.below hB⟩
           replace hTb := (hTb.kept k4 hx).below hB
           replace hKi := (hKi.kept k4 hx).below hB
           replace hk3 := (hk3.trans k4).of_below hB
           replace r4 := r4.below hB
           have zB : w.heap.size ≤ w4.heap.size := Nat.le_trans zK k4.size
           clear k4 hS hQ hB cz hr3
           obtain ⟨xs, hxl, hown, hxs⟩ := hTb
           obtain ⟨i0, hi, hz0, hz1, hz2⟩ := info_parts infoTh
           go_wp2_with (at_builtin; refine wpList_append_own _ rfl _ _ 23 rfl w.heap.size 36 i0 (.agg #[.int .i64 0, .int .i64 0, .int .i64 0, .int .i64 0, .int .i64 0, .slice none 0 0, .slice none 0 0, .int .i64 0]) 8 96 (by kernel_rfl) hi hz0 hz1 hz2 rfl (by decide) _ _ _ rfl hown ⟨w4.heap.size, 0, none⟩ 1 1 (Tc.cells ⟨tk, ts, tv, tve, tnu, sa, sn, sc, qa, qn, qc, ttg⟩) rfl rfl (cell_news hY) (fun v hv => by simp [Tc.cells] at hv; rcases hv with rfl | rfl | rfl | rfl | rfl | rfl | rfl | rfl <;> rfl) (by unfold maxLen; omega) (by omega) (by simp; omega) ?_)
           intro v' u' hown' hgr _
           have hbw := grown_below hgr (fun k hk => (hown.lt k hk).1) (by simp; omega)
           have hTb : TbO u' w.heap.size (k + 1) v' := TbO.snoc hxl hown hxs hgr h0 hown'
           replace hKi := hKi.grown hown hgr
           have hk5 := hk3.under hbw
           have r5 := r4.under hbw hx
           clear hown hown' hgr hbw hY hk3 r4 h0 hxs
           obtain ⟨a', c', rfl⟩ := hTb.slice
           go_wp2_with fail
           go_roundw
           case rel => exact ⟨k + 1, by go_num, by omega, _, _, rfl, hTb, hKi, p4, by omega, by omega, r5, hk5⟩
           case measure => simp [intOf]; omega)
        · have hn : k = n := by omega
          subst hn
          obtain ⟨G, tc', csG0, hv, hbG, _, _⟩ := hTb.row (by omega)
          cases hv
          have hTS : TSt x w k (.slice (some ⟨G, 0, none⟩) k tc) p (p + 90 + 60 * (0 : Nat)) wr := ⟨hTb, hk3, q3, by omega, by omega, hr3⟩
          clear hTb hKi hr3 hk3 lx3
          go_wp2_with fail
          go_loopw [8] (fun i wr => ∃ j : Nat, i = .int .i64 (j : Int) ∧ j ≤ k ∧ TSt x w k (.slice (some ⟨G, 0, none⟩) k tc) p (p + 90 + 60 * j) wr) (fun i _ => ((k : Int) - intOf i).toNat)
          case atStart => exact ⟨0, rfl, by omega, hTS⟩
          case round =>
            clear hTS
            obtain ⟨j, rfl, hj, hTS⟩ := hrel
            by_cases hjk : j < k
            · go_wp2_with fail
              go_loopw [9] (fun i wr => ∃ l : Nat, i = .int .i64 (l : Int) ∧ l ≤ 4 ∧ TSt x w k (.slice (some ⟨G, 0, none⟩) k tc) p (p + 90 + 60 * j + 15 * l) wr) (fun i _ => (4 - intOf i).toNat)
              case atStart => exact ⟨0, rfl, by omega, hTS.more (by omega) (by omega)⟩
              case round =>
                clear hTS
                obtain ⟨l, rfl, hl4, hTS⟩ := hrel
                have HTS := hid hTS
                obtain ⟨hTb, hk4, q4, hq5, hq6, hr4⟩ := hTS
                have lx4 := hr4.lt
                obtain ⟨G', tc', csG, hv, _, hG, hszG⟩ := hTb.row (by omega)
                cases hv
                obtain ⟨⟨y0, y1, y2, y3, y4, sa, sn, sc, qa, qn, qc, y5⟩, hO, hA⟩ := hTb.get hjk
                have cG : wr.cell? ⟨G, j * 8 + 5, none⟩ = some (.slice sa sn sc) := hA.2.2.2.2.2.1
                have c5 : csG[j * 8 + 5]? = some (.slice sa sn sc) := ((own_cells hG).1 _).symm.trans cG
                have hs4 : sn ≤ 4 := by obtain ⟨_, _, _, h, hh⟩ := hO.1.slice; cases h; exact hh
                clear hA
                by_cases hl : l < sn
                · clear HTS
                  have hO1 : SlO wr w.heap.size (.slice sa sn sc) := hO.1
                  obtain ⟨g, cs, rfl, hbg, hg, hcs⟩ := hO1.row (by omega)
                  have hIS : ISt x w k (.slice (some ⟨G, 0, none⟩) k tc) G csG g (sn * 5) wr := ⟨hTb, hk4, hG, cs, hg, hcs⟩
                  clear hO hO1 hg hcs hG
                  go_wp2_with fail
                  refine (l71Right_any _ _ _ hr4 (by omega) (by omega)).mono ?_
                  rintro e w5 ⟨rt, rv, rr, rw', rk, rfl, ht1, ht2, hv1, hv2, q5, hq7, hq8, r5, k5⟩
                  clear cG
                  go_upto_region 21 with fail
                  have hX := own_new w5 (.cells #[.int .i64 rt, .int .i64 rv, .bool rr, .bool rw', .bool rk] 38)
                  have hB := (Below.refl w5.heap.size w5).alloc (Nat.le_refl _) (.cells #[.int .i64 rt, .int .i64 rv, .bool rr, .bool rw', .bool rk] 38)
                  have zX : wr.heap.size ≤ w5.heap.size := k5.size
                  have hXS : XSt x wr w5.heap.size q4 (q4 + 10) ⟨rt, rv, rr, rw', rk⟩ (w5.alloc (.cells #[.int .i64 rt, .int .i64 rv, .bool rr, .bool rw', .bool rk] 38)) := ⟨hX, k5.of_below hB, q5, by omega, by omega, r5.below hB⟩
                  clear hB hX k5 r5 hr4
                  generalize w5.heap.size = X at *
                  go_cut [10, 73] from 54 to 127 (fun c d wx => c = .pointer (some ⟨X, 0, none⟩) ∧ ∃ B : Bool, d = .bool B ∧ (B = true → 0 < rt) ∧ XSt x wr X q4 (q4 + 11) ⟨rt, rv, rr, rw', rk⟩ wx)
                  case first =>
                    obtain ⟨hX, k6, q6, hr61, hr62, r6⟩ := hXS
                    obtain ⟨cX, fX⟩ := own_cells hX
                    have zX2 := own_lt hX
                    have hXS : XSt x wr X q4 (q4 + 11) ⟨rt, rv, rr, rw', rk⟩ _ := ⟨hX, k6, q6, by omega, by omega, r6⟩
                    clear hX k6
                    cases ht : decide (0 < rt)
                    · go_wp2_with fail
                      go_meet
                      exact ⟨rfl, false, rfl, (fun h => by cases h), hXS⟩
                    · have htp : 0 < rt := by simpa using ht
                      go_wp2_with fail
                      refine (pick_any _ _ _ _ r6 (by omega) (by omega)).mono ?_
                      rintro e w7 ⟨m, rfl, _, _, _, r7, k7⟩
                      replace hXS := hXS.pick (by omega) k7 (by omega) (by omega) r7
                      clear cX fX k7 r6 r7
                      go_wp2_with fail
                      go_meet
                      exact ⟨rfl, _, rfl, fun _ => htp, hXS⟩
                  case rest =>
                    clear hXS
                    obtain ⟨rfl, B, rfl, hB1, hXS⟩ := hcut
                    go_upto_if 73 with fail
                    go_cut [10] from 54 to 127 (fun c wx => c = .pointer (some ⟨X, 0, none⟩) ∧ ∃ r : Rt, XSt x wr X q4 (q4 + 13) r wx)
                    case first =>
                      cases B
                      · go_wp2_with fail
                        go_meet
                        exact ⟨rfl, _, hXS.more (by omega) (by omega)⟩
                      · have htp := hB1 rfl
                        obtain ⟨hX, k6, q6, hr61, hr62, r6⟩ := hXS
                        go_upto_region 22 with fail
                        refine wp_region_each (by kernel_rfl) (by kernel_rfl) (by kernel_rfl) (fun b ac u => ∃ t74 t75 t76 t77 t78 t79 t80 t81 t82 t83 : Value, ac = ⟨#[.pointer (some ⟨x, 0, none⟩), undef, .slice none 0 0, .slice a k c, .int .i64 m, .slice (some ⟨G, 0, none⟩) k tc, .int .i64 (k : Int), u7, .int .i64 (j : Int), .int .i64 (l : Int), .pointer (some ⟨X, 0, none⟩), .slice (some ⟨w.heap.size, 0, none⟩) 3 3, .pointer (some ⟨x, 0, none⟩), .int .i64 m1, .int .i64 m, .bool false, u16, u17, u18, u19, u20, u21, u22, u23, u24, u25, .slice (some ⟨E0, 0, none⟩) 0 0, .int .i64 (k : Int), .slice a k c, .int .i64 (k : Int), .bool false, u31, u32, u33, u34, u35, u36, u37, u38, u39, u40, u41, u42, u43, u44, u45, u46, u47, .int .i64 (j : Int), .slice (some ⟨G, 0, none⟩) k tc, .int .i64 (k : Int), .bool true, u52, u53, u54, u55, u56, u57, u58, u59, u60, u61, u62, u63, u64, u65, u66, u67, u68, u69, u70, u71, u72, .bool true, t74, t75, t76, t77, t78, t79, t80, t81, t82, t83, u84, u85, u86, u87, u88, u89, u90, u91, u92, u93, u94, u95, u96, u97, u98, u99, u100, u101, u102, u103, u104, u105, u106, u107, u108, u109, u110, u111, u112, u113, u114, u115, u116, u117, u118, u119, u120, u121, u122, u123, u124, u125, u126, u127, undef, undef, undef, undef, undef, undef, undef, undef, undef, undef, undef, undef, undef, undef], []⟩ ∧ (Kept x wr u ∧ RdC x q6 b [3] u ∧ (b[10]? = some false → u.heap[X]? = some (.cells #[.int .i64 rt, .int .i64 rv, .bool rr, .bool rw', .bool rk] 38 (0, 0)))) ∧ (b[0]? = some true → b[10]? = some false → t74 = .pointer (some ⟨X, 0, none⟩)) ∧ (b[1]? = some true → t75 = .int .i64 rt) ∧ (b[2]? = some true → t76 = .pointer (some ⟨x, 0, none⟩)) ∧ (b[3]? = some true → ∃ y : Int, t77 = .int .i64 y ∧ 0 ≤ y ∧ y < 8) ∧ (b[4]? = some true → ∃ z : Int, t78 = .int .i64 z ∧ 0 ≤ z) ∧ (b[5]? = some true → t79 = .slice (some ⟨G, 0, none⟩) k tc) ∧ (b[6]? = some true → t80 = .int .i64 (k : Int)) ∧ (b[7]? = some true → ∃ z : Nat, t81 = .int .i64 (z : Int) ∧ z < k) ∧ (b[8]? = some true → ∃ z : Nat, t82 = .int .i64 (1 + (z : Int)) ∧ z < k) ∧ (b[9]? = some true → t83 = .pointer (some ⟨X, 0, none⟩)) ∧ (b[10]? = some true → ∃ z : Nat, z < k ∧ u.heap[X]? = some (.cells #[.int .i64 (1 + (z : Int)), .int .i64 rv, .bool rr, .bool rw', .bool rk] 38 (0, 0)))) ?h0_1 ⟨?o1_0, ?o1_1, ?o1_2, ?o1_3, ?o1_4, ?o1_5, ?o1_6, ?o1_7, ?o1_8, ?o1_9, ?o1_10, trivial⟩ ?hend_1
                        case h0_1 => exact ⟨u74, u75, u76, u77, u78, u79, u80, u81, u82, u83, rfl, ⟨k6.drew, RdC.start r6.drew, fun _ => hX⟩, by simp, by simp, by simp, by simp, by simp, by simp, by simp, by simp, by simp, by simp, by simp⟩
                        case o1_0 =>
                          rintro b ac u hbl hbi hcl he ⟨t74, t75, t76, t77, t78, t79, t80, t81, t82, t83, rfl, hk, g0, g1, g2, g3, g4, g5, g6, g7, g8, g9, g10⟩ K hK
                          have hla := last_false (L := 10) hcl hbl rfl (by kernel_rfl) hbi
                          clear he
                          go_simp
                          exact hK _ _ ⟨_, _, _, _, _, _, _, _, _, _, rfl, ⟨hk.1, hk.2.1.other (by decide) (Below.refl _ _), fun h => hk.2.2 (by simpa using h)⟩, fun _ _ => rfl, fun h => g1 (by simpa using h), fun h => g2 (by simpa using h), fun h => g3 (by simpa using h), fun h => g4 (by simpa using h), fun h => g5 (by simpa using h), fun h => g6 (by simpa using h), fun h => g7 (by simpa using h), fun h => g8 (by simpa using h), fun h => g9 (by simpa using h), fun h => (fun g => by simp [hla] at h) (g10 (by simpa using h))⟩
                        case o1_1 =>
                          rintro b ac u hbl hbi hcl he ⟨t74, t75, t76, t77, t78, t79, t80, t81, t82, t83, rfl, hk, g0, g1, g2, g3, g4, g5, g6, g7, g8, g9, g10⟩ K hK
                          have hla := last_false (L := 10) hcl hbl rfl (by kernel_rfl) hbi
                          have p0 : b[0]? = some true := by simp [Region.binds] at he; simp [he]
                          obtain rfl := g0 p0 hla
                          clear he
                          have hT := hk.2.2 hla
                          have cT := (own_cells hT).1
                          have fT := (own_cells hT).2
                          clear hT
                          go_simp
                          exact hK _ _ ⟨_, _, _, _, _, _, _, _, _, _, rfl, ⟨hk.1, hk.2.1.other (by decide) (Below.refl _ _), fun h => hk.2.2 (by simpa using h)⟩, fun h _ => (fun g => g) (g0 (by simpa using h) hla), fun _ => rfl, fun h => g2 (by simpa using h), fun h => g3 (by simpa using h), fun h => g4 (by simpa using h), fun h => g5 (by simpa using h), fun h => g6 (by simpa using h), fun h => g7 (by simpa using h), fun h => g8 (by simpa using h), fun h => g9 (by simpa using h), fun h => (fun g => by simp [hla] at h) (g10 (by simpa using h))⟩
                        case o1_2 =>
                          rintro b ac u hbl hbi hcl he ⟨t74, t75, t76, t77, t78, t79, t80, t81, t82, t83, rfl, hk, g0, g1, g2, g3, g4, g5, g6, g7, g8, g9, g10⟩ K hK
                          have hla := last_false (L := 10) hcl hbl rfl (by kernel_rfl) hbi
                          clear he
                          go_simp
                          exact hK _ _ ⟨_, _, _, _, _, _, _, _, _, _, rfl, ⟨hk.1, hk.2.1.other (by decide) (Below.refl _ _), fun h => hk.2.2 (by simpa using h)⟩, fun h _ => (fun g => g) (g0 (by simpa using h) hla), fun h => g1 (by simpa using h), fun _ => rfl, fun h => g3 (by simpa using h), fun h => g4 (by simpa using h), fun h => g5 (by simpa using h), fun h => g6 (by simpa using h), fun h => g7 (by simpa using h), fun h => g8 (by simpa using h), fun h => g9 (by simpa using h), fun h => (fun g => by simp [hla] at h) (g10 (by simpa using h))⟩
                        case o1_3 =>
                          rintro b ac u hbl hbi hcl he ⟨t74, t75, t76, t77, t78, t79, t80, t81, t82, t83, rfl, hk, g0, g1, g2, g3, g4, g5, g6, g7, g8, g9, g10⟩ K hK
                          have hla := last_false (L := 10) hcl hbl rfl (by kernel_rfl) hbi
                          have p2 : b[2]? = some true := by simp [Region.binds] at he; simp [he]
                          obtain rfl := g2 p2
                          clear he
                          obtain ⟨hk1, ⟨qq, hq3, hq4, hr⟩, hk3⟩ := hk
                          have hcn := Cnt_le b [3]
                          simp only [List.length_cons, List.length_nil] at hcn
                          go_simp
                          refine (pick_any _ _ _ _ hr (by omega) (by omega)).mono ?_
                          rintro e u' ⟨y, rfl, hy0, hy1, _, hr', hS'⟩
                          go_simp
                          exact hK _ _ ⟨_, _, _, _, _, _, _, _, _, _, rfl, ⟨hk1.trans hS', RdC.run hbi (by decide) (by decide) hq3 hq4 hr', fun h => own_kept hS' (by omega) (hk3 (by simpa using h))⟩, fun h _ => (fun g => g) (g0 (by simpa using h) hla), fun h => g1 (by simpa using h), fun h => g2 (by simpa using h), fun _ => ⟨_, rfl, hy0, hy1 (by omega)⟩, fun h => g4 (by simpa using h), fun h => g5 (by simpa using h), fun h => g6 (by simpa using h), fun h => g7 (by simpa using h), fun h => g8 (by simpa using h), fun h => g9 (by simpa using h), fun h => (fun g => by simp [hla] at h) (g10 (by simpa using h))⟩
                        case o1_4 =>
                          rintro b ac u hbl hbi hcl he ⟨t74, t75, t76, t77, t78, t79, t80, t81, t82, t83, rfl, hk, g0, g1, g2, g3, g4, g5, g6, g7, g8, g9, g10⟩ K hK
                          have hla := last_false (L := 10) hcl hbl rfl (by kernel_rfl) hbi
                          have p1 : b[1]? = some true := by simp [Region.binds] at he; simp [he]
                          have p3 : b[3]? = some true := by simp [Region.binds] at he; simp [he]
                          obtain rfl := g1 p1
                          obtain ⟨y, rfl, hy0, hy8⟩ := g3 p3
                          clear he
                          have hw : IntKind.i64.wrap (rt + y) = rt + y := wrap_sm (by omega) (by omega)
                          go_simp
                          exact hK _ _ ⟨_, _, _, _, _, _, _, _, _, _, rfl, ⟨hk.1, hk.2.1.other (by decide) (Below.refl _ _), fun h => hk.2.2 (by simpa using h)⟩, fun h _ => (fun g => g) (g0 (by simpa using h) hla), fun h => g1 (by simpa using h), fun h => g2 (by simpa using h), fun h => g3 (by simpa using h), fun _ => ⟨_, rfl, by omega⟩, fun h => g5 (by simpa using h), fun h => g6 (by simpa using h), fun h => g7 (by simpa using h), fun h => g8 (by simpa using h), fun h => g9 (by simpa using h), fun h => (fun g => by simp [hla] at h) (g10 (by simpa using h))⟩
                        case o1_5 =>
                          rintro b ac u hbl hbi hcl he ⟨t74, t75, t76, t77, t78, t79, t80, t81, t82, t83, rfl, hk, g0, g1, g2, g3, g4, g5, g6, g7, g8, g9, g10⟩ K hK
                          have hla := last_false (L := 10) hcl hbl rfl (by kernel_rfl) hbi
                          clear he
                          go_simp
                          exact hK _ _ ⟨_, _, _, _, _, _, _, _, _, _, rfl, ⟨hk.1, hk.2.1.other (by decide) (Below.refl _ _), fun h => hk.2.2 (by simpa using h)⟩, fun h _ => (fun g => g) (g0 (by simpa using h) hla), fun h => g1 (by simpa using h), fun h => g2 (by simpa using h), fun h => g3 (by simpa using h), fun h => g4 (by simpa using h), fun _ => rfl, fun h => g6 (by simpa using h), fun h => g7 (by simpa using h), fun h => g8 (by simpa using h), fun h => g9 (by simpa using h), fun h => (fun g => by simp [hla] at h) (g10 (by simpa using h))⟩
                        case o1_6 =>
                          rintro b ac u hbl hbi hcl he ⟨t74, t75, t76, t77, t78, t79, t80, t81, t82, t83, rfl, hk, g0, g1, g2, g3, g4, g5, g6, g7, g8, g9, g10⟩ K hK
                          have hla := last_false (L := 10) hcl hbl rfl (by kernel_rfl) hbi
                          have p5 : b[5]? = some true := by simp [Region.binds] at he; simp [he]
                          obtain rfl := g5 p5
                          clear he
                          go_simp
                          exact hK _ _ ⟨_, _, _, _, _, _, _, _, _, _, rfl, ⟨hk.1, hk.2.1.other (by decide) (Below.refl _ _), fun h => hk.2.2 (by simpa using h)⟩, fun h _ => (fun g => g) (g0 (by simpa using h) hla), fun h => g1 (by simpa using h), fun h => g2 (by simpa using h), fun h => g3 (by simpa using h), fun h => g4 (by simpa using h), fun h => g5 (by simpa using h), fun _ => rfl, fun h => g7 (by simpa using h), fun h => g8 (by simpa using h), fun h => g9 (by simpa using h), fun h => (fun g => by simp [hla] at h) (g10 (by simpa using h))⟩
                        case o1_7 =>
                          rintro b ac u hbl hbi hcl he ⟨t74, t75, t76, t77, t78, t79, t80, t81, t82, t83, rfl, hk, g0, g1, g2, g3, g4, g5, g6, g7, g8, g9, g10⟩ K hK
                          have hla := last_false (L := 10) hcl hbl rfl (by kernel_rfl) hbi
                          have p4 : b[4]? = some true := by simp [Region.binds] at he; simp [he]
                          have p6 : b[6]? = some true := by simp [Region.binds] at he; simp [he]
                          obtain ⟨z, rfl, hz0⟩ := g4 p4
                          obtain rfl := g6 p6
                          clear he
                          obtain ⟨mm, e1, e2⟩ := rem_small (n := k) hz0 (by omega)
                          have hk0 : ¬ k = 0 := by omega
                          go_simp
                          exact hK _ _ ⟨_, _, _, _, _, _, _, _, _, _, rfl, ⟨hk.1, hk.2.1.other (by decide) (Below.refl _ _), fun h => hk.2.2 (by simpa using h)⟩, fun h _ => (fun g => g) (g0 (by simpa using h) hla), fun h => g1 (by simpa using h), fun h => g2 (by simpa using h), fun h => g3 (by simpa using h), fun h => g4 (by simpa using h), fun h => g5 (by simpa using h), fun h => g6 (by simpa using h), fun _ => ⟨mm, rfl, e2⟩, fun h => g8 (by simpa using h), fun h => g9 (by simpa using h), fun h => (fun g => by simp [hla] at h) (g10 (by simpa using h))⟩
                        case o1_8 =>
                          rintro b ac u hbl hbi hcl he ⟨t74, t75, t76, t77, t78, t79, t80, t81, t82, t83, rfl, hk, g0, g1, g2, g3, g4, g5, g6, g7, g8, g9, g10⟩ K hK
                          have hla := last_false (L := 10) hcl hbl rfl (by kernel_rfl) hbi
                          have p7 : b[7]? = some true := by simp [Region.binds] at he; simp [he]
                          obtain ⟨z, rfl, hzk⟩ := g7 p7
                          clear he
                          have hw : IntKind.i64.wrap (1 + (z : Int)) = 1 + (z : Int) := wrap_sm (by omega) (by omega)
                          go_simp
                          exact hK _ _ ⟨_, _, _, _, _, _, _, _, _, _, rfl, ⟨hk.1, hk.2.1.other (by decide) (Below.refl _ _), fun h => hk.2.2 (by simpa using h)⟩, fun h _ => (fun g => g) (g0 (by simpa using h) hla), fun h => g1 (by simpa using h), fun h => g2 (by simpa using h), fun h => g3 (by simpa using h), fun h => g4 (by simpa using h), fun h => g5 (by simpa using h), fun h => g6 (by simpa using h), fun h => g7 (by simpa using h), fun _ => ⟨z, rfl, hzk⟩, fun h => g9 (by simpa using h), fun h => (fun g => by simp [hla] at h) (g10 (by simpa using h))⟩
                        case o1_9 =>
                          rintro b ac u hbl hbi hcl he ⟨t74, t75, t76, t77, t78, t79, t80, t81, t82, t83, rfl, hk, g0, g1, g2, g3, g4, g5, g6, g7, g8, g9, g10⟩ K hK
                          have hla := last_false (L := 10) hcl hbl rfl (by kernel_rfl) hbi
                          clear he
                          go_simp
                          exact hK _ _ ⟨_, _, _, _, _, _, _, _, _, _, rfl, ⟨hk.1, hk.2.1.other (by decide) (Below.refl _ _), fun h => hk.2.2 (by simpa using h)⟩, fun h _ => (fun g => g) (g0 (by simpa using h) hla), fun h => g1 (by simpa using h), fun h => g2 (by simpa using h), fun h => g3 (by simpa using h), fun h => g4 (by simpa using h), fun h => g5 (by simpa using h), fun h => g6 (by simpa using h), fun h => g7 (by simpa using h), fun h => g8 (by simpa using h), fun _ => rfl, fun h => (fun g => by simp [hla] at h) (g10 (by simpa using h))⟩
                        case o1_10 =>
                          rintro b ac u hbl hbi hcl he ⟨t74, t75, t76, t77, t78, t79, t80, t81, t82, t83, rfl, hk, g0, g1, g2, g3, g4, g5, g6, g7, g8, g9, g10⟩ K hK
                          have hla := hbi
                          have p9 : b[9]? = some true := by simp [Region.binds] at he; simp [he]
                          have p8 : b[8]? = some true := by simp [Region.binds] at he; simp [he]
                          obtain rfl := g9 p9
                          obtain ⟨z, rfl, hzk⟩ := g8 p8
                          clear he
                          have hT := hk.2.2 hbi
                          have cT := (own_cells hT).1
                          have fT := (own_cells hT).2
                          go_simp
                          exact hK _ _ ⟨_, _, _, _, _, _, _, _, _, _, rfl, ⟨hk.1.setCell_new zX _, hk.2.1.set (by decide) (show x < X by omega) _, fun h => by simp [hbl] at h⟩, fun _ h => (by simp [hbl] at h), fun h => g1 (by simpa using h), fun h => g2 (by simpa using h), fun h => g3 (by simpa using h), fun h => g4 (by simpa using h), fun h => g5 (by simpa using h), fun h => g6 (by simpa using h), fun h => g7 (by simpa using h), fun h => g8 (by simpa using h), fun h => g9 (by simpa using h), fun _ => ⟨z, hzk, own_set hT 0 _⟩⟩
                        rintro ac u ⟨t74, t75, t76, t77, t78, t79, t80, t81, t82, t83, rfl, hk, g0, g1, g2, g3, g4, g5, g6, g7, g8, g9, g10⟩
                        clear g0
                        replace g1 := g1 (by simp)
                        replace g2 := g2 (by simp)
                        replace g3 := g3 (by simp)
                        replace g4 := g4 (by simp)
                        replace g5 := g5 (by simp)
                        replace g6 := g6 (by simp)
                        replace g7 := g7 (by simp)
                        replace g8 := g8 (by simp)
                        replace g9 := g9 (by simp)
                        replace g10 := g10 (by simp)
                        obtain ⟨z, hzk, hX'⟩ := g10
                        obtain ⟨k8, ⟨q8, hq81, hq82, r8⟩, _⟩ := hk
                        replace hq82 : q8 ≤ q6 + 1 := cnt_one hq82
                        have hXS : XSt x wr X q4 (q4 + 12) ⟨1 + (z : Int), rv, rr, rw', rk⟩ u := ⟨hX', k8, q8, by omega, by omega, r8⟩
                        obtain ⟨⟨y0, y1, y2, y3, y4, ysa, ysn, ysc, yqa, yqn, yqc, y5⟩, _, hA⟩ := (hTb.kept k8 hx).get hzk
                        have cV : u.cell? ⟨G, z * 8 + 3, none⟩ = some (.int .i64 y3) := hA.2.2.2.1
                        obtain ⟨cX, fX⟩ := own_cells hX'
                        have zX8 := own_lt hX'
                        clear hA k8 hX' hX k6 r6 g1 g2 g3 g4 g5 g6 g7 g8 g9
                        cases hy : decide (0 < y3)
                        · go_wp2_with fail
                          go_meet
                          exact ⟨rfl, _, (hXS.put1 (by omega) zX _).more (by omega) (by omega)⟩
                        · go_wp2_with fail
                          refine (pick_any _ _ _ _ (r8.setCell (show x < X by omega) _) (by omega) (by omega)).mono ?_
                          rintro e w9 ⟨m9, rfl, _, _, _, r9, k9⟩
                          replace hXS := ((hXS.put1 (by omega) zX y3).more (Int.le_refl _) (show q4 + 12 ≤ q4 + 13 by omega)).pick (by omega) k9 (by omega) (by omega) r9
                          clear cX fX k9 r8 r9 cV
                          obtain ⟨cX, fX⟩ := own_cells hXS.1
                          cases hm9 : (m9 == 0)
                          · go_wp2_with fail
                            go_meet
                            exact ⟨rfl, _, hXS⟩
                          · go_wp2_with fail
                            go_meet
                            exact ⟨rfl, _, hXS.put1 (by omega) zX _⟩
                    case rest =>
                      clear hXS
                      obtain ⟨rfl, ⟨rt, rv, rr, rw', rk⟩, hX, k7, q7, hq9, hq10, r7⟩ := hcut
                      have HIS := hid hIS
                      replace hIS := hIS.kept k7 hx hbG hbg
                      clear k7
                      go_upto_region 26 with fail
                      replace hX : wc.heap[X]? = some (.cells #[.int .i64 rt, .int .i64 rv, .bool rr, .bool rw', .bool rk] 38 (0, 0)) := hX
                      have zXg : g < X := Nat.lt_of_lt_of_le (by obtain ⟨_, _, _, _, h, _⟩ := HIS.out; exact own_lt h) zX
                      clear hTb HIS
                      refine wp_region_each (by kernel_rfl) (by kernel_rfl) (by kernel_rfl) (fun b ac u => ∃ t104 t105 t106 t107 t108 t109 t110 t111 : Value, ac = ⟨#[.pointer (some ⟨x, 0, none⟩), undef, .slice none 0 0, .slice a k c, .int .i64 m, .slice (some ⟨G, 0, none⟩) k tc, .int .i64 (k : Int), u7, .int .i64 (j : Int), .int .i64 (l : Int), .pointer (some ⟨X, 0, none⟩), .slice (some ⟨w.heap.size, 0, none⟩) 3 3, .pointer (some ⟨x, 0, none⟩), .int .i64 m1, .int .i64 m, .bool false, u16, u17, u18, u19, u20, u21, u22, u23, u24, u25, .slice (some ⟨E0, 0, none⟩) 0 0, .int .i64 (k : Int), .slice a k c, .int .i64 (k : Int), .bool false, u31, u32, u33, u34, u35, u36, u37, u38, u39, u40, u41, u42, u43, u44, u45, u46, u47, .int .i64 (j : Int), .slice (some ⟨G, 0, none⟩) k tc, .int .i64 (k : Int), .bool true, u52, u53, u54, u55, u56, u57, u58, u59, u60, u61, u62, u63, u64, u65, u66, u67, u68, u69, u70, u71, u72, u73, u74, u75, u76, u77, u78, u79, u80, u81, u82, u83, u84, u85, u86, u87, u88, u89, u90, u91, u92, u93, u94, u95, u96, u97, u98, u99, u100, u101, u102, u103, t104, t105, t106, t107, t108, t109, t110, t111, u112, u113, u114, u115, u116, u117, u118, u119, u120, u121, u122, u123, u124, u125, u126, u127, undef, undef, undef, undef, undef, undef, undef, undef, undef, undef, undef, undef, undef, undef], []⟩ ∧ (ISt x w k (.slice (some ⟨G, 0, none⟩) k tc) G csG g (sn * 5) u ∧ Rd u x q7 ∧ u.heap[X]? = some (.cells #[.int .i64 rt, .int .i64 rv, .bool rr, .bool rw', .bool rk] 38 (0, 0))) ∧ (b[0]? = some true → t104 = .slice (some ⟨G, 0, none⟩) k tc) ∧ (b[1]? = some true → t105 = .int .i64 (j : Int)) ∧ (b[2]? = some true → t106 = .pointer (some ⟨G, j * 8, none⟩)) ∧ (b[3]? = some true → t107 = .pointer (some ⟨G, j * 8 + 5, none⟩)) ∧ (b[4]? = some true → t108 = .slice (some ⟨g, 0, none⟩) sn sc) ∧ (b[5]? = some true → t109 = .int .i64 (l : Int)) ∧ (b[6]? = some true → t110 = .agg #[.int .i64 rt, .int .i64 rv, .bool rr, .bool rw', .bool rk]) ∧ (b[7]? = some true → t111 = .pointer (some ⟨g, l * 5, none⟩)) ∧ (b[8]? = some true → True)) ?h0_2 ⟨?o2_0, ?o2_1, ?o2_2, ?o2_3, ?o2_4, ?o2_5, ?o2_6, ?o2_7, ?o2_8, trivial⟩ ?hend_2
                      case h0_2 => exact ⟨u104, u105, u106, u107, u108, u109, u110, u111, rfl, ⟨hIS.below (Below.refl _ _).drew, r7.drew, hX⟩, by simp, by simp, by simp, by simp, by simp, by simp, by simp, by simp, by simp⟩
                      case o2_0 =>
                        rintro b ac u hbl hbi hcl he ⟨t104, t105, t106, t107, t108, t109, t110, t111, rfl, hk, g0, g1, g2, g3, g4, g5, g6, g7, g8⟩ K hK
                        clear he
                        go_simp
                        exact hK _ _ ⟨_, _, _, _, _, _, _, _, rfl, hk, fun _ => rfl, fun h => g1 (by simpa using h), fun h => g2 (by simpa using h), fun h => g3 (by simpa using h), fun h => g4 (by simpa using h), fun h => g5 (by simpa using h), fun h => g6 (by simpa using h), fun h => g7 (by simpa using h), fun h => g8 (by simpa using h)⟩
                      case o2_1 =>
                        rintro b ac u hbl hbi hcl he ⟨t104, t105, t106, t107, t108, t109, t110, t111, rfl, hk, g0, g1, g2, g3, g4, g5, g6, g7, g8⟩ K hK
                        clear he
                        go_simp
                        exact hK _ _ ⟨_, _, _, _, _, _, _, _, rfl, hk, fun h => g0 (by simpa using h), fun _ => rfl, fun h => g2 (by simpa using h), fun h => g3 (by simpa using h), fun h => g4 (by simpa using h), fun h => g5 (by simpa using h), fun h => g6 (by simpa using h), fun h => g7 (by simpa using h), fun h => g8 (by simpa using h)⟩
                      case o2_2 =>
                        rintro b ac u hbl hbi hcl he ⟨t104, t105, t106, t107, t108, t109, t110, t111, rfl, hk, g0, g1, g2, g3, g4, g5, g6, g7, g8⟩ K hK
                        have p0 : b[0]? = some true := by simp [Region.binds] at he; simp [he]
                        have p1 : b[1]? = some true := by simp [Region.binds] at he; simp [he]
                        obtain rfl := g0 p0
                        obtain rfl := g1 p1
                        clear he
                        go_simp
                        exact hK _ _ ⟨_, _, _, _, _, _, _, _, rfl, hk, fun h => g0 (by simpa using h), fun h => g1 (by simpa using h), fun _ => rfl, fun h => g3 (by simpa using h), fun h => g4 (by simpa using h), fun h => g5 (by simpa using h), fun h => g6 (by simpa using h), fun h => g7 (by simpa using h), fun h => g8 (by simpa using h)⟩
                      case o2_3 =>
                        rintro b ac u hbl hbi hcl he ⟨t104, t105, t106, t107, t108, t109, t110, t111, rfl, hk, g0, g1, g2, g3, g4, g5, g6, g7, g8⟩ K hK
                        have p2 : b[2]? = some true := by simp [Region.binds] at he; simp [he]
                        obtain rfl := g2 p2
                        clear he
                        go_simp
                        exact hK _ _ ⟨_, _, _, _, _, _, _, _, rfl, hk, fun h => g0 (by simpa using h), fun h => g1 (by simpa using h), fun h => g2 (by simpa using h), fun _ => rfl, fun h => g4 (by simpa using h), fun h => g5 (by simpa using h), fun h => g6 (by simpa using h), fun h => g7 (by simpa using h), fun h => g8 (by simpa using h)⟩
                      case o2_4 =>
                        rintro b ac u hbl hbi hcl he ⟨t104, t105, t106, t107, t108, t109, t110, t111, rfl, hk, g0, g1, g2, g3, g4, g5, g6, g7, g8⟩ K hK
                        have p3 : b[3]? = some true := by simp [Region.binds] at he; simp [he]
                        obtain rfl := g3 p3
                        clear he
                        have cG := ((own_cells hk.1.2.2.1).1 (j * 8 + 5)).trans c5
                        go_simp
                        exact hK _ _ ⟨_, _, _, _, _, _, _, _, rfl, hk, fun h => g0 (by simpa using h), fun h => g1 (by simpa using h), fun h => g2 (by simpa using h), fun h => g3 (by simpa using h), fun _ => rfl, fun h => g5 (by simpa using h), fun h => g6 (by simpa using h), fun h => g7 (by simpa using h), fun h => g8 (by simpa using h)⟩
                      case o2_5 =>
                        rintro b ac u hbl hbi hcl he ⟨t104, t105, t106, t107, t108, t109, t110, t111, rfl, hk, g0, g1, g2, g3, g4, g5, g6, g7, g8⟩ K hK
                        clear he
                        go_simp
                        exact hK _ _ ⟨_, _, _, _, _, _, _, _, rfl, hk, fun h => g0 (by simpa using h), fun h => g1 (by simpa using h), fun h => g2 (by simpa using h), fun h => g3 (by simpa using h), fun h => g4 (by simpa using h), fun _ => rfl, fun h => g6 (by simpa using h), fun h => g7 (by simpa using h), fun h => g8 (by simpa using h)⟩
                      case o2_6 =>
                        rintro b ac u hbl hbi hcl he ⟨t104, t105, t106, t107, t108, t109, t110, t111, rfl, hk, g0, g1, g2, g3, g4, g5, g6, g7, g8⟩ K hK
                        clear he
                        have cX := (own_cells hk.2.2).1
                        have fX := (own_cells hk.2.2).2
                        go_simp
                        exact hK _ _ ⟨_, _, _, _, _, _, _, _, rfl, hk, fun h => g0 (by simpa using h), fun h => g1 (by simpa using h), fun h => g2 (by simpa using h), fun h => g3 (by simpa using h), fun h => g4 (by simpa using h), fun h => g5 (by simpa using h), fun _ => rfl, fun h => g7 (by simpa using h), fun h => g8 (by simpa using h)⟩
                      case o2_7 =>
                        rintro b ac u hbl hbi hcl he ⟨t104, t105, t106, t107, t108, t109, t110, t111, rfl, hk, g0, g1, g2, g3, g4, g5, g6, g7, g8⟩ K hK
                        have p4 : b[4]? = some true := by simp [Region.binds] at he; simp [he]
                        have p5 : b[5]? = some true := by simp [Region.binds] at he; simp [he]
                        obtain rfl := g4 p4
                        obtain rfl := g5 p5
                        clear he
                        go_simp
                        exact hK _ _ ⟨_, _, _, _, _, _, _, _, rfl, hk, fun h => g0 (by simpa using h), fun h => g1 (by simpa using h), fun h => g2 (by simpa using h), fun h => g3 (by simpa using h), fun h => g4 (by simpa using h), fun h => g5 (by simpa using h), fun h => g6 (by simpa using h), fun _ => rfl, fun h => g8 (by simpa using h)⟩
                      case o2_8 =>
                        rintro b ac u hbl hbi hcl he ⟨t104, t105, t106, t107, t108, t109, t110, t111, rfl, hk, g0, g1, g2, g3, g4, g5, g6, g7, g8⟩ K hK
                        have p7 : b[7]? = some true := by simp [Region.binds] at he; simp [he]
                        have p6 : b[6]? = some true := by simp [Region.binds] at he; simp [he]
                        obtain rfl := g7 p7
                        obtain rfl := g6 p6
                        clear he
                        obtain ⟨⟨hk1, hk2, hk4, cs, hk6, hk7⟩, hr8, hX8⟩ := hk
                        have hk : ISt x w k (.slice (some ⟨G, 0, none⟩) k tc) G csG g (sn * 5) u := ⟨hk1, hk2, hk4, cs, hk6, hk7⟩
                        have fG := (own_cells hk6).2
                        obtain ⟨v0, c0⟩ := own_at hk6 (o := l * 5) (by omega)
                        obtain ⟨v1, c1⟩ := own_at hk6 (o := l * 5 + 1) (by omega)
                        obtain ⟨v2, c2⟩ := own_at hk6 (o := l * 5 + 2) (by omega)
                        obtain ⟨v3, c3⟩ := own_at hk6 (o := l * 5 + 3) (by omega)
                        obtain ⟨v4, c4⟩ := own_at hk6 (o := l * 5 + 4) (by omega)
                        go_simp
                        exact hK _ _ ⟨_, _, _, _, _, _, _, _, rfl, ⟨hk.setR hbg l ⟨rt, rv, rr, rw', rk⟩, hr8.setR (show x < g by omega) _ ⟨rt, rv, rr, rw', rk⟩, own_setR_ne hX8 (show g ≠ X by omega) _ ⟨rt, rv, rr, rw', rk⟩⟩, fun h => g0 (by simpa using h), fun h => g1 (by simpa using h), fun h => g2 (by simpa using h), fun h => g3 (by simpa using h), fun h => g4 (by simpa using h), fun h => g5 (by simpa using h), fun h => g6 (by simpa using h), fun h => g7 (by simpa using h), fun _ => trivial⟩
                      rintro ac u ⟨t104, t105, t106, t107, t108, t109, t110, t111, rfl, hk, g0, g1, g2, g3, g4, g5, g6, g7, g8⟩
                      replace g0 := g0 (by simp)
                      replace g1 := g1 (by simp)
                      replace g2 := g2 (by simp)
                      replace g3 := g3 (by simp)
                      replace g4 := g4 (by simp)
                      replace g5 := g5 (by simp)
                      replace g6 := g6 (by simp)
                      replace g7 := g7 (by simp)
                      replace g8 := g8 (by simp)
                      obtain ⟨hIS', r8, hX8⟩ := hk
                      obtain ⟨cX, fX⟩ := own_cells hX8
                      clear hIS r7 hX hX8 g0 g1 g2 g3 g4 g5 g6 g7 g8
                      go_wp2_with fail
                      refine (srtOk_any ⟨rt, rv, rr, rw', rk⟩ _).mono ?_
                      rintro e w9 ⟨rfl, b9⟩
                      replace hIS' := hIS'.below b9
                      replace r8 := r8.below b9
                      clear b9 cX fX
                      generalize Rt.ok ⟨rt, rv, rr, rw', rk⟩ = B
                      cases B
                      · go_wp2_with fail
                        refine (pick_any _ _ _ _ r8 (by omega) (by omega)).mono ?_
                        rintro e w10 ⟨m10, rfl, _, _, _, r10, k10⟩
                        replace hIS' := hIS'.kept k10 hx hbG hbg
                        clear k10 r8
                        cases hm10 : decide (0 < m10)
                        · go_wp2_with fail
                          go_roundw
                          case rel => exact ⟨l + 1, by go_num, by omega, hIS'.1, hIS'.2.1, q7 + 1, by omega, by omega, r10⟩
                          case measure => simp [intOf]; omega
                        · have hIS2 := hIS'
                          obtain ⟨hk1, hk2, hk4, cs, hk6, hk7⟩ := hIS2
                          have cG := ((own_cells hk4).1 (j * 8 + 5)).trans c5
                          have fG := (own_cells hk6).2
                          obtain ⟨v0, c0⟩ := own_at hk6 (o := l * 5) (by omega)
                          obtain ⟨v1, c1⟩ := own_at hk6 (o := l * 5 + 1) (by omega)
                          obtain ⟨v2, c2⟩ := own_at hk6 (o := l * 5 + 2) (by omega)
                          obtain ⟨v3, c3⟩ := own_at hk6 (o := l * 5 + 3) (by omega)
                          obtain ⟨v4, c4⟩ := own_at hk6 (o := l * 5 + 4) (by omega)
                          clear hk1 hk2 hk4 hk6
                          go_wp2_with fail
                          go_roundw
                          case rel =>
                            have hIS3 := hIS'.setR hbg l ⟨0, 0, false, false, false⟩
                            have r11 := r10.setR (show x < g by omega) (l * 5) ⟨0, 0, false, false, false⟩
                            exact ⟨l + 1, by go_num, by omega, hIS3.1, hIS3.2.1, q7 + 1, by omega, by omega, r11⟩
                          case measure => simp [intOf]; omega
                      · go_wp2_with fail
                        go_roundw
                        case rel => exact ⟨l + 1, by go_num, by omega, hIS'.1, hIS'.2.1, q7, by omega, by omega, r8⟩
                        case measure => simp [intOf]; omega
                · clear hO c5
                  have fG := (own_cells hG).2
                  clear hG
                  go_wp2_with fail
                  go_roundw
                  case rel => exact ⟨j + 1, by go_num, by omega, HTS.out.more (by omega) (by omega)⟩
                  case measure => simp [intOf]; omega
            · have hjk' : j = k := by omega
              obtain ⟨hTb, hk4, q4, hq5, hq6, hr4⟩ := hTS
              have lx4 := hr4.lt
              clear hjk
              go_wp2_with fail
              refine (pick_any _ _ _ _ hr4 (by omega) (by omega)).mono ?_
              rintro e w5 ⟨m5, rfl, _, _, _, r5, k5⟩
              replace hTb := hTb.kept k5 hx
              replace hk4 := hk4.trans k5
              clear k5 hr4
              cases hm : (m5 == 0)
              · go_wp2_with fail
                go_ret
                exact ⟨_, _, _, rfl, by omega, by omega, hTb, q4 + 1, by omega, by omega, r5, hk4⟩
              · go_wp2_with fail
                refine (pick_any _ _ _ _ r5 (by omega) (by omega)).mono ?_
                rintro e w6 ⟨m6, rfl, hm60, hm61, _, r6, k6⟩
                replace hm61 := hm61 (by omega)
                obtain ⟨i6, rfl⟩ : ∃ i : Nat, m6 = i := ⟨m6.toNat, by omega⟩
                replace hTb := hTb.kept k6 hx
                replace hk4 := hk4.trans k6
                clear k6 r5
                go_wp2_with fail
                refine (pick_any _ _ _ _ r6 (by omega) (by omega)).mono ?_
                rintro e w7 ⟨m7, rfl, hm70, hm71, _, r7, k7⟩
                replace hm71 := hm71 (by omega)
                replace hTb := hTb.kept k7 hx
                replace hk4 := hk4.trans k7
                clear k7 r6
                obtain ⟨G', tc', csG, hv, _, hG, hszG⟩ := hTb.row (by omega)
                cases hv
                obtain ⟨cG, fG⟩ := own_cells hG
                obtain ⟨v0, c0⟩ := own_at hG (o := i6 * 8) (by omega)
                clear cG hG
                go_wp2_with fail
                go_ret
                exact ⟨_, _, _, rfl, by omega, by omega, hTb.put0 (by omega) _, q4 + 1 + 1 + 1, by omega, by omega, r7.setCell (show x < G by omega) _, hk4.setCell_new hbG _⟩
    · have hm' : 0 < m := by simpa using hm
      go_wp2_with fail
      have hO := own_new wr (.cells #[.int .i64 1, .int .i64 2, .int .i64 2, .int .i64 3, .int .i64 4, .int .i64 5] 3)
      refine (pick_any _ _ _ _ (hr2.alloc _) (by omega) (by omega)).mono ?_
      rintro e w3 ⟨mm, rfl, hn0, hn1, _, r3, k3⟩
      replace hn1 := hn1 (by omega)
      replace hO := own_kept k3 (by omega) hO
      have hA := (Below.refl wr.heap.size wr).alloc (Nat.le_refl _) (.cells #[.int .i64 1, .int .i64 2, .int .i64 2, .int .i64 3, .int .i64 4, .int .i64 5] 3)
      replace hKi := (hKi.below hA).kept k3 hx
      replace hk2 := (hk2.of_below hA).trans k3
      obtain ⟨zs, hzl, hown⟩ := hKi
      clear k3 hr2 hA
      obtain ⟨cO, fO⟩ := own_cells hO
      obtain ⟨y, hy, _⟩ := pick_list [.int .i64 1, .int .i64 2, .int .i64 2, .int .i64 3, .int .i64 4, .int .i64 5] mm.toNat (fun _ => True) (by simp) (by simp; omega)
      obtain ⟨i0, hi, hz0, hz1, hz2⟩ := info_parts infoInt
      have hY := own_new w3 (.cells #[.int .i64 y] 3)
      have hB := (Below.refl w3.heap.size w3).alloc (Nat.le_refl _) (.cells #[.int .i64 y] 3)
      replace hown := ownsRow_below hown hB
      have zK := hk2.size
      go_wp2_with (at_builtin; refine wpList_append_own _ rfl _ _ 34 rfl w.heap.size 3 i0 (.int .i64 0) 1 8 (by kernel_rfl) hi hz0 hz1 hz2 rfl (by decide) _ _ _ rfl hown ⟨w3.heap.size, 0, none⟩ 1 1 [.int .i64 y] rfl rfl (cell_one hY) (fun v hv => by simp at hv; subst hv; rfl) (by unfold maxLen; omega) (by omega) (by simp; omega) ?_)
      intro v' u' hown' hgr _
      have hbw := grown_below hgr (fun k hk => (hown.lt k hk).1) (by simp; omega)
      have hKi : KiO u' w.heap.size (n + 1) v' := ⟨zs ++ [y], by simp [hzl], by simpa using hown'⟩
      have hk5 := (hk2.of_below hB).under hbw
      have r5 := (r3.below hB).under hbw hx
      clear hown hown' hgr hbw hB hY hO cO fO hk2 r3
      obtain ⟨a', c', rfl⟩ := hKi.slice
      go_wp2_with fail
      go_roundw
      case rel => exact ⟨m - 1, by go_num, by omega, by omega, _, _, _, rfl, by omega, by omega, hKi, q + 1, by omega, by omega, r5, hk5⟩
      case measure => simp [intOf]; omega
end Go.Proofs.YtcgmnpppdoadhaaDoor
