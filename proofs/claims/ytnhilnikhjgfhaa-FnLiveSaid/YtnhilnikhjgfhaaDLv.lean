/- The drawn table and right of the law FnLive: a contract of the reference's DrawTableLive. No condition but that the code is a row of bytes. -/
import Derived.Test.YtnhilnikhjgfhaaDFn
namespace Go.Proofs.Ytnhilnikhjgfhaa
open Go.RowKit
set_option linter.unusedVariables false
set_option linter.unusedSimpArgs false

/-- What a draw of a table and a right leaves, in plain data. -/
def LiveDrawn (w : World) (e : Ending) (w' : World) : Prop :=
  ∃ (ts : List Th) (a : Option Addr) (c : Nat) (r : Rt), e = .returned (.tuple #[.slice a ts.length c, .agg #[.int .i64 r.t, .int .i64 r.v, .bool r.r, .bool r.w, .bool r.k]]) ∧ 3 ≤ ts.length ∧ ts.length ≤ 8 ∧ RowT w' a ts ∧ Below w.heap.size w w'
/-- The state of the draw: the table, the result's right in block R, the reader. -/
def LSt (x : Nat) (w w0 : World) (n : Nat) (t : Value) (lo hi : Int) (u : World) : Prop :=
  TbO u w0.heap.size n t ∧ Kept x w u ∧ (∃ r : Rt, u.heap[w.heap.size]? = some (.cells #[.int .i64 r.t, .int .i64 r.v, .bool r.r, .bool r.w, .bool r.k] 44 (0, 0))) ∧ ∃ q : Int, lo ≤ q ∧ q ≤ hi ∧ Rd u x q
theorem LSt.pick {x : Nat} {w w0 : World} {n : Nat} {t : Value} {lo hi hi' : Int} {u u' : World} {q' : Int} (h : LSt x w w0 n t lo hi u) (hx : w.heap.size < x) (hx0 : x < w0.heap.size) (hk : Kept x u u') (h1 : lo ≤ q') (h2 : q' ≤ hi') (hr : Rd u' x q') : LSt x w w0 n t lo hi' u' := by
  obtain ⟨a, b, ⟨r, c⟩, d⟩ := h; exact ⟨a.kept hk hx0, b.trans hk, ⟨r, own_kept hk (by omega) c⟩, q', h1, h2, hr⟩
theorem LSt.below {x : Nat} {w w0 : World} {n : Nat} {t : Value} {lo hi : Int} {u u' : World} (h : LSt x w w0 n t lo hi u) (hb : Below u.heap.size u u') : LSt x w w0 n t lo hi u' := by
  obtain ⟨a, b, ⟨r, c⟩, q, d, e, f⟩ := h; exact ⟨a.below hb, b.of_below hb, ⟨r, own_below hb c⟩, q, d, e, f.below hb⟩
theorem LSt.more {x : Nat} {w w0 : World} {n : Nat} {t : Value} {lo hi hi' : Int} {u : World} (h : LSt x w w0 n t lo hi u) (h2 : hi ≤ hi') : LSt x w w0 n t lo hi' u := by
  obtain ⟨a, b, c, q, d, e, f⟩ := h; exact ⟨a, b, c, q, d, by omega, f⟩
/-- The draw's end: the right r is written into the result's block. -/
theorem LSt.end_ {x : Nat} {w w0 : World} {n c : Nat} {a : Option Addr} {lo hi : Int} {u : World} (h : LSt x w w0 n (.slice a n c) lo hi u) (hx : w.heap.size ≤ x) (h3 : 3 ≤ n) (h8 : n ≤ 8) (r : Rt) :
    (∀ o, (((((u.setCell ⟨w.heap.size, 0, none⟩ (.int .i64 r.t)).setCell ⟨w.heap.size, 1, none⟩ (.int .i64 r.v)).setCell ⟨w.heap.size, 2, none⟩ (.bool r.r)).setCell ⟨w.heap.size, 3, none⟩ (.bool r.w)).setCell ⟨w.heap.size, 4, none⟩ (.bool r.k)).cell? ⟨w.heap.size, o, none⟩ = #[.int .i64 r.t, .int .i64 r.v, .bool r.r, .bool r.w, .bool r.k][o]?) ∧
    LiveDrawn w (.returned (.tuple #[.slice a n c, .agg #[.int .i64 r.t, .int .i64 r.v, .bool r.r, .bool r.w, .bool r.k]])) (((((u.setCell ⟨w.heap.size, 0, none⟩ (.int .i64 r.t)).setCell ⟨w.heap.size, 1, none⟩ (.int .i64 r.v)).setCell ⟨w.heap.size, 2, none⟩ (.bool r.r)).setCell ⟨w.heap.size, 3, none⟩ (.bool r.w)).setCell ⟨w.heap.size, 4, none⟩ (.bool r.k)) := by
  obtain ⟨hTb, hk, ⟨r0, hR⟩, _⟩ := h
  refine ⟨?_, ?_⟩
  · have hE : (setR u w.heap.size 0 r).heap[w.heap.size]? = some (.cells #[.int .i64 r.t, .int .i64 r.v, .bool r.r, .bool r.w, .bool r.k] 44 (0, 0)) := own_setR hR 0 r
    exact (own_cells hE).1
  · obtain ⟨ts, hl, _, hT⟩ := (TbO.setR hTb hR 0 r).open
    have hk' := (hk.setR (Nat.le_refl _) 0 r).below' hx
    subst hl
    exact ⟨ts, a, c, r, rfl, h3, h8, hT, hk'⟩
set_option maxHeartbeats 4000000 in
set_option maxRecDepth 100000 in
theorem drawTableLive_any (a : Option Addr) (len cap : Nat) (z : List Int) (w : World) (hr : IsRow .u8 w a len cap z) :
    Calls Try.prog 22 #[.slice a len cap] w (LiveDrawn w) := by
  have hR := own_new w (.cells #[.int .i64 0, .int .i64 0, .bool false, .bool false, .bool false] 44)
  go_enter Try.func22, Try.ntmps22
  go_wp2_with fail
  refine (l6Open_any _ _ _ _ _ (hr.alloc _)).mono ?_
  rintro e w0 ⟨x, hx0, rfl, r0, b0⟩
  have z0 := b0.size
  try simp at z0
  have lx0 := r0.lt
  try simp at hx0
  have z0_0 : w.heap.size < w0.heap.size := by omega
  have y0_0 : ¬ w.heap.size = x := by omega
  have t0 : Kept x w w0 := by
    refine Kept.of_below ?_ b0
    · repeat (first | exact Kept.refl _ _ | refine Kept.alloc ?_ _)
  obtain ⟨c0, f0⟩ := bcell b0
  replace hR := own_below b0 hR
  clear b0 c0 f0
  go_wp2_with fail
  refine (l71Fine_any _ _ _ r0 (by omega) (by omega)).mono ?_
  rintro e w1 ⟨ta, n, c, rfl, h3, h8, hTb, q, hq1, hq2, r1, k1⟩
  replace t0 := t0.trans k1
  replace hR := own_kept k1 (by omega) hR
  have hxR : w.heap.size < x := by omega
  have hS : LSt x w w0 n (.slice ta n c) 0 (6001 + 2 * (0 : Nat)) w1 := ⟨hTb, t0, ⟨⟨0, 0, false, false, false⟩, hR⟩, q, by omega, by omega, r1⟩
  obtain ⟨G, tc', csG0, hv, hbG, _, _⟩ := hTb.row (by omega)
  cases hv
  clear k1 hTb hR r1 r0 t0
  go_wp2_with fail
  go_loopw [6] (fun i wr => ∃ k : Nat, i = .int .i64 (k : Int) ∧ k ≤ 6 ∧ LSt x w w0 n (.slice (some ⟨G, 0, none⟩) n c) 0 (6001 + 2 * k) wr) (fun i _ => (6 - intOf i).toNat)
  case atStart => exact ⟨0, rfl, by omega, hS⟩
  case round =>
    clear hS
    obtain ⟨k, rfl, hk6, hS⟩ := hrel
    have HS := hid hS
    obtain ⟨hTb, hk0, ⟨⟨y0, y1, y2, y3, y4⟩, hR⟩, q, hq1, hq2, r1⟩ := hS
    have lx1 := r1.lt
    by_cases hki : k < 6
    · clear hTb hk0 hR
      go_wp2_with fail
      refine (pick_any _ _ _ _ r1 (by omega) (by omega)).mono ?_
      rintro e w2 ⟨m, rfl, _, _, _, r2, k2⟩
      have hS := HS.out.pick (hi' := 6001 + 2 * k + 1) hxR lx0 k2 (show (0 : Int) ≤ q + 1 by omega) (by omega) r2
      clear k2 r1 HS
      cases hm : decide (0 < m)
      · go_wp2_with fail
        refine (l71Right_any _ _ _ r2 (by omega) (by omega)).mono ?_
        rintro e w3 ⟨rt, rv, rr, rw', rk, rfl, _, _, _, _, q3, _, _, r3, k3⟩
        replace hS := hS.pick (hi' := q3) hxR lx0 k3 (by omega) (by omega) r3
        clear k3 r2 r3
        obtain ⟨q4, hLD⟩ := LSt.end_ hS (by omega) h3 h8 ⟨rt, rv, rr, rw', rk⟩
        obtain ⟨_, _, ⟨⟨z0, z1, z2, z3, z4⟩, hR⟩, _⟩ := hS
        have zR := own_lt hR
        obtain ⟨cR, fR⟩ := own_cells hR
        clear hR
        have HLD := hid hLD
        have HQ := hid q4
        clear hLD q4
        go_wp2_with fail
        have q4 := HQ.out
        clear cR fR
        refine bodyPost_ret (v := .tuple #[.slice (some ⟨G, 0, none⟩) n c, .agg #[.int .i64 rt, .int .i64 rv, .bool rr, .bool rw', .bool rk]]) ?_ rfl HLD.out
        simp only [results, Try.results22]
        go_simp
      · go_wp2_with fail
        refine (pick_any _ _ _ _ r2 (by omega) (by omega)).mono ?_
        rintro e w3 ⟨m3, rfl, h30, h31, _, r3, k3⟩
        replace h31 := h31 (by omega)
        obtain ⟨i3, rfl⟩ : ∃ i : Nat, m3 = i := ⟨m3.toNat, by omega⟩
        replace hS := hS.pick (hi' := 6001 + 2 * k + 2) hxR lx0 k3 (show (0 : Int) ≤ q + 1 + 1 by omega) (by omega) r3
        clear k3 r2
        have HS := hid hS
        obtain ⟨hTb, hk0, ⟨⟨y0, y1, y2, y3, y4⟩, hR⟩, _⟩ := hS
        obtain ⟨⟨z0, z1, z2, z3, z4, sa, sn, sc, qa, qn, qc, z5⟩, hO, hA⟩ := hTb.get (j := i3) (by omega)
        obtain ⟨cA0, cA1, cA2, cA3, cA4, cA5, cA6, cA7⟩ := hA
        dsimp only at cA0 cA1 cA2 cA3 cA4 cA5 cA6 cA7
        have hO1 : SlO w3 w0.heap.size (.slice sa sn sc) := hO.1
        have hs4 : sn ≤ 4 := by obtain ⟨_, _, _, h, hh⟩ := hO1.slice; cases h; exact hh
        have hY := own_new w3 (.cells #[.int .i64 z0, .int .i64 z1, .int .i64 z2, .int .i64 z3, .int .i64 z4, .slice sa sn sc, .slice qa qn qc, .int .i64 z5] 28)
        have hB := (Below.refl w3.heap.size w3).alloc (Nat.le_refl _) (.cells #[.int .i64 z0, .int .i64 z1, .int .i64 z2, .int .i64 z3, .int .i64 z4, .slice sa sn sc, .slice qa qn qc, .int .i64 z5] 28)
        have hS := HS.out.below hB
        replace hO1 := hO1.below hB
        have lxX := r3.lt
        replace r3 := r3.below hB
        have lx3 := r3.lt
        have zk := Nat.le_trans (show w.heap.size ≤ w0.heap.size by omega) (show w0.heap.size ≤ w3.heap.size by have := hk0.size; obtain ⟨_, _, _, _, h, h', _⟩ := hTb.row (by omega); have := own_lt h'; omega)
        clear hTb hk0 hR hO hB HS
        by_cases hsn : 0 < sn
        · go_upto_region 8 with fail
          obtain ⟨hTb, hk0, ⟨⟨y0, y1, y2, y3, y4⟩, hR⟩, q, hq1, hq2, r3⟩ := hS
          obtain ⟨g, cs, rfl, hbg, hg, hcs⟩ := hO1.row hsn
          clear cA0 cA1 cA2 cA3 cA4 cA5 cA6 cA7
          have zX := own_lt hY
          generalize w3.heap.size = X at *
          refine named (p := fun W => Code.wp _ _ _ _ W) _ ?_
          intro W hW
          rw [hW] at hTb hk0 hR r3 hY hO1 lx3 zX
          clear hW hg
          refine wp_region_each (by kernel_rfl) (by kernel_rfl) (by kernel_rfl) (fun b ac u => ∃ t2 t32 t33 t34 t35 t36 t37 t38 t39 t40 t41 : Value, ac = ⟨#[.slice a len cap, undef, t2, .pointer (some ⟨w.heap.size, 0, none⟩), .pointer (some ⟨x, 0, none⟩), .slice (some ⟨G, 0, none⟩) n c, .int .i64 (k : Int), .pointer (some ⟨X, 0, none⟩), .slice a len cap, .pointer (some ⟨x, 0, none⟩), .pointer (some ⟨x, 0, none⟩), .slice (some ⟨G, 0, none⟩) n c, .int .i64 (k : Int), .bool true, .bool true, .pointer (some ⟨x, 0, none⟩), .int .i64 m, .bool true, .bool true, u19, u20, .slice (some ⟨G, 0, none⟩) n c, .pointer (some ⟨x, 0, none⟩), .slice (some ⟨G, 0, none⟩) n c, .int .i64 (n : Int), .int .i64 (i3 : Int), .pointer (some ⟨G, i3 * 8, none⟩), .agg #[.int .i64 z0, .int .i64 z1, .int .i64 z2, .int .i64 z3, .int .i64 z4, .slice (some ⟨g, 0, none⟩) sn sc, .slice qa qn qc, .int .i64 z5], .pointer (some ⟨X, 5, none⟩), .slice (some ⟨g, 0, none⟩) sn sc, .int .i64 (sn : Int), .bool true, t32, t33, t34, t35, t36, t37, t38, t39, t40, t41, undef, undef, undef], []⟩ ∧ ((b[11]? = some false → TbO u w0.heap.size n (.slice (some ⟨G, 0, none⟩) n c) ∧ Kept x w u ∧ RdC x q b [7] u ∧ u.heap[X]? = some (.cells #[.int .i64 z0, .int .i64 z1, .int .i64 z2, .int .i64 z3, .int .i64 z4, .slice (some ⟨g, 0, none⟩) sn sc, .slice qa qn qc, .int .i64 z5] 28 (0, 0)) ∧ SlO u w0.heap.size (.slice (some ⟨g, 0, none⟩) sn sc) ∧ u.heap[w.heap.size]? = some (.cells #[.int .i64 y0, .int .i64 y1, .bool y2, .bool y3, .bool y4] 44 (0, 0)))) ∧ (b[0]? = some true → b[11]? = some false → t32 = .slice (some ⟨G, 0, none⟩) n c) ∧ (b[1]? = some true → t33 = .pointer (some ⟨X, 5, none⟩)) ∧ (b[2]? = some true → t34 = .slice (some ⟨g, 0, none⟩) sn sc) ∧ (b[3]? = some true → t35 = .pointer (some ⟨x, 0, none⟩)) ∧ (b[4]? = some true → t36 = .pointer (some ⟨X, 5, none⟩)) ∧ (b[5]? = some true → t37 = .slice (some ⟨g, 0, none⟩) sn sc) ∧ (b[6]? = some true → t38 = .int .i64 (sn : Int)) ∧ (b[7]? = some true → ∃ i : Nat, t39 = .int .i64 (i : Int) ∧ i < sn) ∧ (b[8]? = some true → ∃ i : Nat, t40 = .pointer (some ⟨g, i * 5, none⟩) ∧ i < sn) ∧ (b[9]? = some true → ∃ r : Rt, t41 = .agg #[.int .i64 r.t, .int .i64 r.v, .bool r.r, .bool r.w, .bool r.k]) ∧ (b[10]? = some true → t2 = .slice (some ⟨G, 0, none⟩) n c) ∧ (b[11]? = some true → ∃ r : Rt, (∀ o, u.cell? ⟨w.heap.size, o, none⟩ = #[.int .i64 r.t, .int .i64 r.v, .bool r.r, .bool r.w, .bool r.k][o]?) ∧ LiveDrawn w (.returned (.tuple #[.slice (some ⟨G, 0, none⟩) n c, .agg #[.int .i64 r.t, .int .i64 r.v, .bool r.r, .bool r.w, .bool r.k]])) u)) ?h0_1 ⟨?o1_0, ?o1_1, ?o1_2, ?o1_3, ?o1_4, ?o1_5, ?o1_6, ?o1_7, ?o1_8, ?o1_9, ?o1_10, ?o1_11, trivial⟩ ?hend_1
          case h0_1 => exact ⟨u2, u32, u33, u34, u35, u36, u37, u38, u39, u40, u41, rfl, (fun _ => ⟨hTb.below (Below.refl _ _).drew, hk0.drew, RdC.start r3.drew, hY, hO1.below (Below.refl _ _).drew, hR⟩), by simp, by simp, by simp, by simp, by simp, by simp, by simp, by simp, by simp, by simp, by simp, by simp⟩
          case o1_0 =>
            rintro b ac u hbl hbi hcl he ⟨t2, t32, t33, t34, t35, t36, t37, t38, t39, t40, t41, rfl, hk, g0, g1, g2, g3, g4, g5, g6, g7, g8, g9, g10, g11⟩ K hK
            have hla := last_false (L := 11) hcl hbl rfl (by kernel_rfl) hbi
            clear he
            go_simp
            exact hK _ _ ⟨_, _, _, _, _, _, _, _, _, _, _, rfl, fun _ => ⟨(hk hla).1, (hk hla).2.1, (hk hla).2.2.1.other (by decide) (Below.refl _ _), (hk hla).2.2.2⟩, fun _ _ => rfl, fun h => g1 (by simpa using h), fun h => g2 (by simpa using h), fun h => g3 (by simpa using h), fun h => g4 (by simpa using h), fun h => g5 (by simpa using h), fun h => g6 (by simpa using h), fun h => g7 (by simpa using h), fun h => g8 (by simpa using h), fun h => g9 (by simpa using h), fun h => g10 (by simpa using h), fun h => (fun g => by simp [hla] at h) (g11 (by simpa using h))⟩
          case o1_1 =>
            rintro b ac u hbl hbi hcl he ⟨t2, t32, t33, t34, t35, t36, t37, t38, t39, t40, t41, rfl, hk, g0, g1, g2, g3, g4, g5, g6, g7, g8, g9, g10, g11⟩ K hK
            have hla := last_false (L := 11) hcl hbl rfl (by kernel_rfl) hbi
            clear he
            go_simp
            exact hK _ _ ⟨_, _, _, _, _, _, _, _, _, _, _, rfl, fun _ => ⟨(hk hla).1, (hk hla).2.1, (hk hla).2.2.1.other (by decide) (Below.refl _ _), (hk hla).2.2.2⟩, fun h _ => (fun g => g) (g0 (by simpa using h) hla), fun _ => rfl, fun h => g2 (by simpa using h), fun h => g3 (by simpa using h), fun h => g4 (by simpa using h), fun h => g5 (by simpa using h), fun h => g6 (by simpa using h), fun h => g7 (by simpa using h), fun h => g8 (by simpa using h), fun h => g9 (by simpa using h), fun h => g10 (by simpa using h), fun h => (fun g => by simp [hla] at h) (g11 (by simpa using h))⟩
          case o1_2 =>
            rintro b ac u hbl hbi hcl he ⟨t2, t32, t33, t34, t35, t36, t37, t38, t39, t40, t41, rfl, hk, g0, g1, g2, g3, g4, g5, g6, g7, g8, g9, g10, g11⟩ K hK
            have hla := last_false (L := 11) hcl hbl rfl (by kernel_rfl) hbi
            have p1 : b[1]? = some true := by simp [Region.binds] at he; simp [he]
            obtain rfl := g1 p1
            clear he
            have cT := (own_cells (hk hla).2.2.2.1).1
            have fT := (own_cells (hk hla).2.2.2.1).2
            go_simp
            exact hK _ _ ⟨_, _, _, _, _, _, _, _, _, _, _, rfl, fun _ => ⟨(hk hla).1, (hk hla).2.1, (hk hla).2.2.1.other (by decide) (Below.refl _ _), (hk hla).2.2.2⟩, fun h _ => (fun g => g) (g0 (by simpa using h) hla), fun h => g1 (by simpa using h), fun _ => rfl, fun h => g3 (by simpa using h), fun h => g4 (by simpa using h), fun h => g5 (by simpa using h), fun h => g6 (by simpa using h), fun h => g7 (by simpa using h), fun h => g8 (by simpa using h), fun h => g9 (by simpa using h), fun h => g10 (by simpa using h), fun h => (fun g => by simp [hla] at h) (g11 (by simpa using h))⟩
          case o1_3 =>
            rintro b ac u hbl hbi hcl he ⟨t2, t32, t33, t34, t35, t36, t37, t38, t39, t40, t41, rfl, hk, g0, g1, g2, g3, g4, g5, g6, g7, g8, g9, g10, g11⟩ K hK
            have hla := last_false (L := 11) hcl hbl rfl (by kernel_rfl) hbi
            clear he
            go_simp
            exact hK _ _ ⟨_, _, _, _, _, _, _, _, _, _, _, rfl, fun _ => ⟨(hk hla).1, (hk hla).2.1, (hk hla).2.2.1.other (by decide) (Below.refl _ _), (hk hla).2.2.2⟩, fun h _ => (fun g => g) (g0 (by simpa using h) hla), fun h => g1 (by simpa using h), fun h => g2 (by simpa using h), fun _ => rfl, fun h => g4 (by simpa using h), fun h => g5 (by simpa using h), fun h => g6 (by simpa using h), fun h => g7 (by simpa using h), fun h => g8 (by simpa using h), fun h => g9 (by simpa using h), fun h => g10 (by simpa using h), fun h => (fun g => by simp [hla] at h) (g11 (by simpa using h))⟩
          case o1_4 =>
            rintro b ac u hbl hbi hcl he ⟨t2, t32, t33, t34, t35, t36, t37, t38, t39, t40, t41, rfl, hk, g0, g1, g2, g3, g4, g5, g6, g7, g8, g9, g10, g11⟩ K hK
            have hla := last_false (L := 11) hcl hbl rfl (by kernel_rfl) hbi
            clear he
            go_simp
            exact hK _ _ ⟨_, _, _, _, _, _, _, _, _, _, _, rfl, fun _ => ⟨(hk hla).1, (hk hla).2.1, (hk hla).2.2.1.other (by decide) (Below.refl _ _), (hk hla).2.2.2⟩, fun h _ => (fun g => g) (g0 (by simpa using h) hla), fun h => g1 (by simpa using h), fun h => g2 (by simpa using h), fun h => g3 (by simpa using h), fun _ => rfl, fun h => g5 (by simpa using h), fun h => g6 (by simpa using h), fun h => g7 (by simpa using h), fun h => g8 (by simpa using h), fun h => g9 (by simpa using h), fun h => g10 (by simpa using h), fun h => (fun g => by simp [hla] at h) (g11 (by simpa using h))⟩
          case o1_5 =>
            rintro b ac u hbl hbi hcl he ⟨t2, t32, t33, t34, t35, t36, t37, t38, t39, t40, t41, rfl, hk, g0, g1, g2, g3, g4, g5, g6, g7, g8, g9, g10, g11⟩ K hK
            have hla := last_false (L := 11) hcl hbl rfl (by kernel_rfl) hbi
            have p4 : b[4]? = some true := by simp [Region.binds] at he; simp [he]
            obtain rfl := g4 p4
            clear he
            have cT := (own_cells (hk hla).2.2.2.1).1
            have fT := (own_cells (hk hla).2.2.2.1).2
            go_simp
            exact hK _ _ ⟨_, _, _, _, _, _, _, _, _, _, _, rfl, fun _ => ⟨(hk hla).1, (hk hla).2.1, (hk hla).2.2.1.other (by decide) (Below.refl _ _), (hk hla).2.2.2⟩, fun h _ => (fun g => g) (g0 (by simpa using h) hla), fun h => g1 (by simpa using h), fun h => g2 (by simpa using h), fun h => g3 (by simpa using h), fun h => g4 (by simpa using h), fun _ => rfl, fun h => g6 (by simpa using h), fun h => g7 (by simpa using h), fun h => g8 (by simpa using h), fun h => g9 (by simpa using h), fun h => g10 (by simpa using h), fun h => (fun g => by simp [hla] at h) (g11 (by simpa using h))⟩
          case o1_6 =>
            rintro b ac u hbl hbi hcl he ⟨t2, t32, t33, t34, t35, t36, t37, t38, t39, t40, t41, rfl, hk, g0, g1, g2, g3, g4, g5, g6, g7, g8, g9, g10, g11⟩ K hK
            have hla := last_false (L := 11) hcl hbl rfl (by kernel_rfl) hbi
            have p5 : b[5]? = some true := by simp [Region.binds] at he; simp [he]
            obtain rfl := g5 p5
            clear he
            go_simp
            exact hK _ _ ⟨_, _, _, _, _, _, _, _, _, _, _, rfl, fun _ => ⟨(hk hla).1, (hk hla).2.1, (hk hla).2.2.1.other (by decide) (Below.refl _ _), (hk hla).2.2.2⟩, fun h _ => (fun g => g) (g0 (by simpa using h) hla), fun h => g1 (by simpa using h), fun h => g2 (by simpa using h), fun h => g3 (by simpa using h), fun h => g4 (by simpa using h), fun h => g5 (by simpa using h), fun _ => rfl, fun h => g7 (by simpa using h), fun h => g8 (by simpa using h), fun h => g9 (by simpa using h), fun h => g10 (by simpa using h), fun h => (fun g => by simp [hla] at h) (g11 (by simpa using h))⟩
          case o1_7 =>
            rintro b ac u hbl hbi hcl he ⟨t2, t32, t33, t34, t35, t36, t37, t38, t39, t40, t41, rfl, hk, g0, g1, g2, g3, g4, g5, g6, g7, g8, g9, g10, g11⟩ K hK
            have hla := last_false (L := 11) hcl hbl rfl (by kernel_rfl) hbi
            have p3 : b[3]? = some true := by simp [Region.binds] at he; simp [he]
            have p6 : b[6]? = some true := by simp [Region.binds] at he; simp [he]
            obtain rfl := g3 p3
            obtain rfl := g6 p6
            clear he
            obtain ⟨hk1, hk2, ⟨qq, hq3, hq4, hr⟩, hk4, hk5, hk6⟩ := hk hla
            have hcn := Cnt_le b [7]
            simp only [List.length_cons, List.length_nil] at hcn
            go_simp
            refine (pick_any _ _ _ _ hr (by omega) (by omega)).mono ?_
            rintro e u' ⟨y, rfl, hy0, hy1, _, hr', hS'⟩
            replace hy1 := hy1 (by omega)
            obtain ⟨i, rfl⟩ : ∃ i : Nat, y = i := ⟨y.toNat, by omega⟩
            go_simp
            exact hK _ _ ⟨_, _, _, _, _, _, _, _, _, _, _, rfl, fun _ => ⟨hk1.kept hS' lx0, hk2.trans hS', RdC.run hbi (by decide) (by decide) hq3 hq4 hr', own_kept hS' (by omega) hk4, hk5.kept hS' lx0, own_kept hS' (by omega) hk6⟩, fun h _ => (fun g => g) (g0 (by simpa using h) hla), fun h => g1 (by simpa using h), fun h => g2 (by simpa using h), fun h => g3 (by simpa using h), fun h => g4 (by simpa using h), fun h => g5 (by simpa using h), fun h => g6 (by simpa using h), fun _ => ⟨i, rfl, by omega⟩, fun h => g8 (by simpa using h), fun h => g9 (by simpa using h), fun h => g10 (by simpa using h), fun h => (fun g => by simp [hla] at h) (g11 (by simpa using h))⟩
          case o1_8 =>
            rintro b ac u hbl hbi hcl he ⟨t2, t32, t33, t34, t35, t36, t37, t38, t39, t40, t41, rfl, hk, g0, g1, g2, g3, g4, g5, g6, g7, g8, g9, g10, g11⟩ K hK
            have hla := last_false (L := 11) hcl hbl rfl (by kernel_rfl) hbi
            have p2 : b[2]? = some true := by simp [Region.binds] at he; simp [he]
            have p7 : b[7]? = some true := by simp [Region.binds] at he; simp [he]
            obtain rfl := g2 p2
            obtain ⟨i, rfl, hi⟩ := g7 p7
            clear he
            go_simp
            exact hK _ _ ⟨_, _, _, _, _, _, _, _, _, _, _, rfl, fun _ => ⟨(hk hla).1, (hk hla).2.1, (hk hla).2.2.1.other (by decide) (Below.refl _ _), (hk hla).2.2.2⟩, fun h _ => (fun g => g) (g0 (by simpa using h) hla), fun h => g1 (by simpa using h), fun h => g2 (by simpa using h), fun h => g3 (by simpa using h), fun h => g4 (by simpa using h), fun h => g5 (by simpa using h), fun h => g6 (by simpa using h), fun h => g7 (by simpa using h), fun _ => ⟨i, rfl, hi⟩, fun h => g9 (by simpa using h), fun h => g10 (by simpa using h), fun h => (fun g => by simp [hla] at h) (g11 (by simpa using h))⟩
          case o1_9 =>
            rintro b ac u hbl hbi hcl he ⟨t2, t32, t33, t34, t35, t36, t37, t38, t39, t40, t41, rfl, hk, g0, g1, g2, g3, g4, g5, g6, g7, g8, g9, g10, g11⟩ K hK
            have hla := last_false (L := 11) hcl hbl rfl (by kernel_rfl) hbi
            have p8 : b[8]? = some true := by simp [Region.binds] at he; simp [he]
            obtain ⟨i, rfl, hi⟩ := g8 p8
            clear he
            obtain ⟨rs, hrl, _, hRow⟩ := (hk hla).2.2.2.2.1.open
            obtain ⟨gb, go_, xr, he', hxr, hgb, q0, q1, q2, q3, q4⟩ := hRow.at (k := i) (by omega)
            cases he'
            rw [Nat.zero_add] at q0 q1 q2 q3 q4
            go_simp
            exact hK _ _ ⟨_, _, _, _, _, _, _, _, _, _, _, rfl, fun _ => ⟨(hk hla).1, (hk hla).2.1, (hk hla).2.2.1.other (by decide) (Below.refl _ _), (hk hla).2.2.2⟩, fun h _ => (fun g => g) (g0 (by simpa using h) hla), fun h => g1 (by simpa using h), fun h => g2 (by simpa using h), fun h => g3 (by simpa using h), fun h => g4 (by simpa using h), fun h => g5 (by simpa using h), fun h => g6 (by simpa using h), fun h => g7 (by simpa using h), fun h => g8 (by simpa using h), fun _ => ⟨xr, rfl⟩, fun h => g10 (by simpa using h), fun h => (fun g => by simp [hla] at h) (g11 (by simpa using h))⟩
          case o1_10 =>
            rintro b ac u hbl hbi hcl he ⟨t2, t32, t33, t34, t35, t36, t37, t38, t39, t40, t41, rfl, hk, g0, g1, g2, g3, g4, g5, g6, g7, g8, g9, g10, g11⟩ K hK
            have hla := last_false (L := 11) hcl hbl rfl (by kernel_rfl) hbi
            have p0 : b[0]? = some true := by simp [Region.binds] at he; simp [he]
            obtain rfl := g0 p0 hla
            clear he
            go_simp
            exact hK _ _ ⟨_, _, _, _, _, _, _, _, _, _, _, rfl, fun _ => ⟨(hk hla).1, (hk hla).2.1, (hk hla).2.2.1.other (by decide) (Below.refl _ _), (hk hla).2.2.2⟩, fun h _ => (fun g => g) (g0 (by simpa using h) hla), fun h => g1 (by simpa using h), fun h => g2 (by simpa using h), fun h => g3 (by simpa using h), fun h => g4 (by simpa using h), fun h => g5 (by simpa using h), fun h => g6 (by simpa using h), fun h => g7 (by simpa using h), fun h => g8 (by simpa using h), fun h => g9 (by simpa using h), fun _ => rfl, fun h => (fun g => by simp [hla] at h) (g11 (by simpa using h))⟩
          case o1_11 =>
            rintro b ac u hbl hbi hcl he ⟨t2, t32, t33, t34, t35, t36, t37, t38, t39, t40, t41, rfl, hk, g0, g1, g2, g3, g4, g5, g6, g7, g8, g9, g10, g11⟩ K hK
            have hla := hbi
            have p9 : b[9]? = some true := by simp [Region.binds] at he; simp [he]
            have p10 : b[10]? = some true := by simp [Region.binds] at he; simp [he]
            obtain ⟨r, rfl⟩ := g9 p9
            obtain rfl := g10 p10
            clear he
            obtain ⟨hk1, hk2, ⟨qq, hq3, hq4, hr⟩, hk4, hk5, hk6⟩ := hk hbi
            have hcn := Cnt_le b [7]
            simp only [List.length_cons, List.length_nil] at hcn
            have hLS : LSt x w w0 n (.slice (some ⟨G, 0, none⟩) n c) 0 qq u := ⟨hk1, hk2, ⟨⟨y0, y1, y2, y3, y4⟩, hk6⟩, qq, by omega, by omega, hr⟩
            have hEND := hid (LSt.end_ hLS (by omega) h3 h8 r)
            have cR := (own_cells hk6).1
            have fR := (own_cells hk6).2
            go_simp
            exact hK _ _ ⟨_, _, _, _, _, _, _, _, _, _, _, rfl, fun h => by simp [hbl] at h, fun _ h => (by simp [hbl] at h), fun h => g1 (by simpa using h), fun h => g2 (by simpa using h), fun h => g3 (by simpa using h), fun h => g4 (by simpa using h), fun h => g5 (by simpa using h), fun h => g6 (by simpa using h), fun h => g7 (by simpa using h), fun h => g8 (by simpa using h), fun h => g9 (by simpa using h), fun h => g10 (by simpa using h), fun _ => ⟨r, hEND.out⟩⟩
          rintro ac u ⟨t2, t32, t33, t34, t35, t36, t37, t38, t39, t40, t41, rfl, hk, g0, g1, g2, g3, g4, g5, g6, g7, g8, g9, g10, g11⟩
          clear g0
          replace g1 := g1 (by simp)
          replace g2 := g2 (by simp)
          replace g3 := g3 (by simp)
          replace g4 := g4 (by simp)
          replace g5 := g5 (by simp)
          replace g6 := g6 (by simp)
          replace g7 := g7 (by simp)
          replace g8 := g8 (by simp)
          replace g9 := g9 (by simp)
          replace g10 := g10 (by simp)
          replace g11 := g11 (by simp)
          obtain ⟨r, q4, hLD⟩ := g11
          obtain rfl := g10
          have HLD := hid hLD
          clear hk g1 g2 g3 g4 g5 g6 g7 g8 g9 hLD hTb hk0 hR r3 hY hO1
          go_wp2_with fail
          refine bodyPost_ret (v := .tuple #[.slice (some ⟨G, 0, none⟩) n c, .agg #[.int .i64 r.t, .int .i64 r.v, .bool r.r, .bool r.w, .bool r.k]]) ?_ rfl HLD.out
          simp only [results, Try.results22]
          go_simp
        · clear hY hO1
          go_wp2_with fail
          go_roundw
          case rel => exact ⟨k + 1, by go_num, by omega, hS.more (by omega)⟩
          case measure => simp [intOf]; omega
    · have hS := HS.out
      clear hTb hk0 hR HS
      go_wp2_with fail
      refine (l71Right_any _ _ _ r1 (by omega) (by omega)).mono ?_
      rintro e w3 ⟨rt, rv, rr, rw', rk, rfl, _, _, _, _, q3, _, _, r3, k3⟩
      replace hS := hS.pick (hi' := q3) hxR lx0 k3 (by omega) (by omega) r3
      clear k3 r1 r3
      obtain ⟨q4, hLD⟩ := LSt.end_ hS (by omega) h3 h8 ⟨rt, rv, rr, rw', rk⟩
      obtain ⟨_, _, ⟨⟨z0, z1, z2, z3, z4⟩, hR⟩, _⟩ := hS
      have zR := own_lt hR
      obtain ⟨cR, fR⟩ := own_cells hR
      clear hR
      have HLD := hid hLD
      have HQ := hid q4
      clear hLD q4
      go_wp2_with fail
      have q4 := HQ.out
      clear cR fR
      refine bodyPost_ret (v := .tuple #[.slice (some ⟨G, 0, none⟩) n c, .agg #[.int .i64 rt, .int .i64 rv, .bool rr, .bool rw', .bool rk]]) ?_ rfl HLD.out
      simp only [results, Try.results22]
      go_simp
end Go.Proofs.Ytnhilnikhjgfhaa
