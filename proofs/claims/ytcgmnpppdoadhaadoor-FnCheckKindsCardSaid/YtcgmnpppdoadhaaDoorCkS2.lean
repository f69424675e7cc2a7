/- What the reference tells of a call: contracts of l11Check and CheckCall. No condition but where the arguments lie. -/
import Derived.Test.YtcgmnpppdoadhaaDoorCkS
namespace Go.Proofs.YtcgmnpppdoadhaaDoor
set_option maxRecDepth 100000
open Go Go.RowKit
set_option linter.unusedVariables false
set_option linter.unusedSimpArgs false

set_option maxHeartbeats 4000000 in
set_option maxRecDepth 100000 in
theorem l11Check_any (ta : Option Addr) (c : Nat) (ts : List Th) (k run a bb n : Int) (w : World) (hT : RowT w ta ts) (e0 : callB ts k run a bb n = true) :
    Calls Tryd.prog 27 #[.slice ta ts.length c, .agg #[.int .i64 k, .int .i64 run, .int .i64 a, .int .i64 bb, .int .i64 n]] w fun e w' => e = .returned (.int .i64 (chkCall ts k run a bb n)) ∧ Below w.heap.size w w' := by
  have hC := own_new w (.cells #[.int .i64 k, .int .i64 run, .int .i64 a, .int .i64 bb, .int .i64 n] 25)
  have tt : Below w.heap.size w (w.alloc (.cells #[.int .i64 k, .int .i64 run, .int .i64 a, .int .i64 bb, .int .i64 n] 25)) := (Below.refl _ _).alloc (Nat.le_refl _) _
  cases e1 : (k == 3)
  case true =>
    have q : chkCall ts k run a bb n = 0 := by simp [chkCall, e0, e1]
    rw [q]
    clear q e0 hT
    generalize ts.length = m at *
    obtain ⟨cC, fC⟩ := own_cells hC
    go_enter Tryd.func27, Tryd.ntmps27
    go_wp2_with fail
    go_ret
    exact ⟨rfl, tt⟩
  case false =>
  obtain ⟨hok, hk9, j, l, t, x, rfl, rfl, hx, hl4, hlen, hxl, hkd, hrA⟩ := callB_at e0
  have q : chkCall ts k ((j : Int) + 1) (l : Int) bb n = chkRt ts k ((j : Int) + 1) x := by
    unfold chkCall; rw [e0, e1, hrA]; rfl
  rw [q]
  clear q e0 hrA
  have hjm : j < ts.length := (List.getElem?_eq_some_iff.1 hx).1
  have hwj := wr_small hjm hT.len
  have CR := hid (fun u => l11Needs_any k u hk9 e1)
  have CKd := hid (fun kd u => l11Kind_any k kd u hk9 e1)
  obtain ⟨tb, off, rfl, htb, TJ⟩ := hT.get hx
  obtain ⟨sa, sc, qa, qc, _, _, _, _, _, c5, _, _, hR, _⟩ := TJ w (Below.refl _ _)
  rw [hlen] at c5
  obtain ⟨g, go_, x', rfl, hxl', hg, q0, q1, q2, q3, q4⟩ := hR.at (k := l) (by omega)
  rw [hxl] at hxl'
  cases hxl'
  have hfit := fit_cases (tbl_fit hok hx hxl)
  have fSl := fun u (hu : Below w.heap.size w u) => (hu.cell (p := ⟨tb, off + j * 8 + 5, none⟩) htb).trans c5
  have FX := fun u (hu : Below w.heap.size w u) => show At5 u g (go_ + l * 5) x from ⟨(hu.cell (p := ⟨g, _, none⟩) hg).trans q0, (hu.cell (p := ⟨g, _, none⟩) hg).trans q1, (hu.cell (p := ⟨g, _, none⟩) hg).trans q2, (hu.cell (p := ⟨g, _, none⟩) hg).trans q3, (hu.cell (p := ⟨g, _, none⟩) hg).trans q4⟩
  have HT := hid hT
  have HX := hid hx
  have HOK := hid hok
  clear TJ c5 hR q0 q1 q2 q3 q4 hx hxl hlen hkd hT hok
  obtain ⟨m, em⟩ : ∃ m, m = ts.length := ⟨_, rfl⟩
  rw [← em] at hjm ⊢
  have EM := hid em
  clear em
  obtain ⟨xt, xv, xr, xw, xk⟩ := x
  dsimp only [At5] at FX hfit
  generalize erd : needRd k = rd at *
  generalize ewr : needWr k = wr at *
  obtain ⟨cC, fC⟩ := own_cells hC
  go_enter Tryd.func27, Tryd.ntmps27
  go_upto_region 3 with fail
  clear cC fC
  refine named (p := fun W => Code.wp _ _ _ _ W) _ ?_
  intro W hW
  replace hC := own_eq hW hC
  rw [hW] at tt
  clear hW
  refine wp_region_each (by kernel_rfl) (by kernel_rfl) (by kernel_rfl) (fun b ac u => ∃ t5 t11 t12 t13 t14 t15 t16 t17 t18 t19 t20 t21 : Value, ac = ⟨#[.slice (some ⟨tb, off, none⟩) m c, .agg #[.int .i64 k, .int .i64 ((j : Int) + 1), .int .i64 (l : Int), .int .i64 bb, .int .i64 n], undef, .pointer (some ⟨w.heap.size, 0, none⟩), .int .i64 0, t5, undef, undef, .pointer (some ⟨w.heap.size, 0, none⟩), .int .i64 k, .bool false, t11, t12, t13, t14, t15, t16, t17, t18, t19, t20, t21, undef, undef, undef, undef, undef, undef, undef, undef, undef, undef, undef, undef, undef, undef, undef, undef, undef, undef, undef, undef, undef, undef, undef, undef, undef, undef, undef, undef, undef, undef, undef, undef, undef, undef, undef, undef, undef, undef, undef, undef, undef, undef, undef, undef, undef, undef, undef, undef, undef, undef, undef, undef, undef, undef, undef, undef, undef, undef, undef, undef, undef, undef, undef, undef, undef, undef, undef, undef, undef, undef, undef, undef, undef], []⟩ ∧ (Below W.heap.size W u) ∧ (b[0]? = some true → t11 = .slice (some ⟨tb, off, none⟩) m c) ∧ (b[1]? = some true → t12 = .pointer (some ⟨w.heap.size, 1, none⟩)) ∧ (b[2]? = some true → t13 = .int .i64 ((j : Int) + 1)) ∧ (b[3]? = some true → t14 = .int .i64 (j : Int)) ∧ (b[4]? = some true → t15 = .pointer (some ⟨tb, off + j * 8, none⟩)) ∧ (b[5]? = some true → t16 = .pointer (some ⟨tb, off + j * 8 + 5, none⟩)) ∧ (b[6]? = some true → t17 = .slice (some ⟨g, go_, none⟩) 4 sc) ∧ (b[7]? = some true → t18 = .pointer (some ⟨w.heap.size, 2, none⟩)) ∧ (b[8]? = some true → t19 = .int .i64 (l : Int)) ∧ (b[9]? = some true → t20 = .pointer (some ⟨g, go_ + l * 5, none⟩)) ∧ (b[10]? = some true → t21 = .agg #[.int .i64 xt, .int .i64 xv, .bool xr, .bool xw, .bool xk]) ∧ (b[11]? = some true → b[12]? = some false → ∃ X : Nat, t5 = .pointer (some ⟨X, 0, none⟩) ∧ W.heap.size ≤ X ∧ u.heap[X]? = some (.cells #[.int .i64 0, .int .i64 0, .bool false, .bool false, .bool false] 38 (0, 0))) ∧ (b[12]? = some true → ∃ X : Nat, t5 = .pointer (some ⟨X, 0, none⟩) ∧ W.heap.size ≤ X ∧ u.heap[X]? = some (.cells #[.int .i64 xt, .int .i64 xv, .bool xr, .bool xw, .bool xk] 38 (0, 0)))) ?h0_1 ⟨?o1_0, ?o1_1, ?o1_2, ?o1_3, ?o1_4, ?o1_5, ?o1_6, ?o1_7, ?o1_8, ?o1_9, ?o1_10, ?o1_11, ?o1_12, trivial⟩ ?hend_1
  case h0_1 => exact ⟨undef, undef, undef, undef, undef, undef, undef, undef, undef, undef, undef, undef, rfl, (Below.refl _ _).drew, by simp, by simp, by simp, by simp, by simp, by simp, by simp, by simp, by simp, by simp, by simp, by simp, by simp⟩
  case o1_0 =>
    rintro b ac u hbl hbi hcl he ⟨t5, t11, t12, t13, t14, t15, t16, t17, t18, t19, t20, t21, rfl, hk, g0, g1, g2, g3, g4, g5, g6, g7, g8, g9, g10, g11, g12⟩ K hK
    have hla := last_false (L := 12) hcl hbl rfl (by kernel_rfl) hbi
    clear he
    go_simp
    exact hK _ _ ⟨_, _, _, _, _, _, _, _, _, _, _, _, rfl, hk, fun _ => rfl, fun h => g1 (by simpa using h), fun h => g2 (by simpa using h), fun h => g3 (by simpa using h), fun h => g4 (by simpa using h), fun h => g5 (by simpa using h), fun h => g6 (by simpa using h), fun h => g7 (by simpa using h), fun h => g8 (by simpa using h), fun h => g9 (by simpa using h), fun h => g10 (by simpa using h), fun h _ => (fun g => g) (g11 (by simpa using h) hla), fun h => (fun g => by simp [hla] at h) (g12 (by simpa using h))⟩
  case o1_1 =>
    rintro b ac u hbl hbi hcl he ⟨t5, t11, t12, t13, t14, t15, t16, t17, t18, t19, t20, t21, rfl, hk, g0, g1, g2, g3, g4, g5, g6, g7, g8, g9, g10, g11, g12⟩ K hK
    have hla := last_false (L := 12) hcl hbl rfl (by kernel_rfl) hbi
    clear he
    go_simp
    exact hK _ _ ⟨_, _, _, _, _, _, _, _, _, _, _, _, rfl, hk, fun h => g0 (by simpa using h), fun _ => rfl, fun h => g2 (by simpa using h), fun h => g3 (by simpa using h), fun h => g4 (by simpa using h), fun h => g5 (by simpa using h), fun h => g6 (by simpa using h), fun h => g7 (by simpa using h), fun h => g8 (by simpa using h), fun h => g9 (by simpa using h), fun h => g10 (by simpa using h), fun h _ => (fun g => g) (g11 (by simpa using h) hla), fun h => (fun g => by simp [hla] at h) (g12 (by simpa using h))⟩
  case o1_2 =>
    rintro b ac u hbl hbi hcl he ⟨t5, t11, t12, t13, t14, t15, t16, t17, t18, t19, t20, t21, rfl, hk, g0, g1, g2, g3, g4, g5, g6, g7, g8, g9, g10, g11, g12⟩ K hK
    have hla := last_false (L := 12) hcl hbl rfl (by kernel_rfl) hbi
    have p1 : b[1]? = some true := by simp [Region.binds] at he; simp [he]
    obtain rfl := g1 p1
    clear he
    have cC := (own_cells (own_below hk hC)).1
    have fC := (own_cells (own_below hk hC)).2
    go_simp
    exact hK _ _ ⟨_, _, _, _, _, _, _, _, _, _, _, _, rfl, hk, fun h => g0 (by simpa using h), fun h => g1 (by simpa using h), fun _ => rfl, fun h => g3 (by simpa using h), fun h => g4 (by simpa using h), fun h => g5 (by simpa using h), fun h => g6 (by simpa using h), fun h => g7 (by simpa using h), fun h => g8 (by simpa using h), fun h => g9 (by simpa using h), fun h => g10 (by simpa using h), fun h _ => (fun g => g) (g11 (by simpa using h) hla), fun h => (fun g => by simp [hla] at h) (g12 (by simpa using h))⟩
  case o1_3 =>
    rintro b ac u hbl hbi hcl he ⟨t5, t11, t12, t13, t14, t15, t16, t17, t18, t19, t20, t21, rfl, hk, g0, g1, g2, g3, g4, g5, g6, g7, g8, g9, g10, g11, g12⟩ K hK
    have hla := last_false (L := 12) hcl hbl rfl (by kernel_rfl) hbi
    have p2 : b[2]? = some true := by simp [Region.binds] at he; simp [he]
    obtain rfl := g2 p2
    clear he
    go_simp
    exact hK _ _ ⟨_, _, _, _, _, _, _, _, _, _, _, _, rfl, hk, fun h => g0 (by simpa using h), fun h => g1 (by simpa using h), fun h => g2 (by simpa using h), fun _ => rfl, fun h => g4 (by simpa using h), fun h => g5 (by simpa using h), fun h => g6 (by simpa using h), fun h => g7 (by simpa using h), fun h => g8 (by simpa using h), fun h => g9 (by simpa using h), fun h => g10 (by simpa using h), fun h _ => (fun g => g) (g11 (by simpa using h) hla), fun h => (fun g => by simp [hla] at h) (g12 (by simpa using h))⟩
  case o1_4 =>
    rintro b ac u hbl hbi hcl he ⟨t5, t11, t12, t13, t14, t15, t16, t17, t18, t19, t20, t21, rfl, hk, g0, g1, g2, g3, g4, g5, g6, g7, g8, g9, g10, g11, g12⟩ K hK
    have hla := last_false (L := 12) hcl hbl rfl (by kernel_rfl) hbi
    have p0 : b[0]? = some true := by simp [Region.binds] at he; simp [he]
    have p3 : b[3]? = some true := by simp [Region.binds] at he; simp [he]
    obtain rfl := g0 p0
    obtain rfl := g3 p3
    clear he
    go_simp
    exact hK _ _ ⟨_, _, _, _, _, _, _, _, _, _, _, _, rfl, hk, fun h => g0 (by simpa using h), fun h => g1 (by simpa using h), fun h => g2 (by simpa using h), fun h => g3 (by simpa using h), fun _ => rfl, fun h => g5 (by simpa using h), fun h => g6 (by simpa using h), fun h => g7 (by simpa using h), fun h => g8 (by simpa using h), fun h => g9 (by simpa using h), fun h => g10 (by simpa using h), fun h _ => (fun g => g) (g11 (by simpa using h) hla), fun h => (fun g => by simp [hla] at h) (g12 (by simpa using h))⟩
  case o1_5 =>
    rintro b ac u hbl hbi hcl he ⟨t5, t11, t12, t13, t14, t15, t16, t17, t18, t19, t20, t21, rfl, hk, g0, g1, g2, g3, g4, g5, g6, g7, g8, g9, g10, g11, g12⟩ K hK
    have hla := last_false (L := 12) hcl hbl rfl (by kernel_rfl) hbi
    have p4 : b[4]? = some true := by simp [Region.binds] at he; simp [he]
    obtain rfl := g4 p4
    clear he
    go_simp
    exact hK _ _ ⟨_, _, _, _, _, _, _, _, _, _, _, _, rfl, hk, fun h => g0 (by simpa using h), fun h => g1 (by simpa using h), fun h => g2 (by simpa using h), fun h => g3 (by simpa using h), fun h => g4 (by simpa using h), fun _ => rfl, fun h => g6 (by simpa using h), fun h => g7 (by simpa using h), fun h => g8 (by simpa using h), fun h => g9 (by simpa using h), fun h => g10 (by simpa using h), fun h _ => (fun g => g) (g11 (by simpa using h) hla), fun h => (fun g => by simp [hla] at h) (g12 (by simpa using h))⟩
  case o1_6 =>
    rintro b ac u hbl hbi hcl he ⟨t5, t11, t12, t13, t14, t15, t16, t17, t18, t19, t20, t21, rfl, hk, g0, g1, g2, g3, g4, g5, g6, g7, g8, g9, g10, g11, g12⟩ K hK
    have hla := last_false (L := 12) hcl hbl rfl (by kernel_rfl) hbi
    have p5 : b[5]? = some true := by simp [Region.binds] at he; simp [he]
    obtain rfl := g5 p5
    clear he
    have cS := fSl u (tt.trans (hk.mono tt.size))
    go_simp
    exact hK _ _ ⟨_, _, _, _, _, _, _, _, _, _, _, _, rfl, hk, fun h => g0 (by simpa using h), fun h => g1 (by simpa using h), fun h => g2 (by simpa using h), fun h => g3 (by simpa using h), fun h => g4 (by simpa using h), fun h => g5 (by simpa using h), fun _ => rfl, fun h => g7 (by simpa using h), fun h => g8 (by simpa using h), fun h => g9 (by simpa using h), fun h => g10 (by simpa using h), fun h _ => (fun g => g) (g11 (by simpa using h) hla), fun h => (fun g => by simp [hla] at h) (g12 (by simpa using h))⟩
  case o1_7 =>
    rintro b ac u hbl hbi hcl he ⟨t5, t11, t12, t13, t14, t15, t16, t17, t18, t19, t20, t21, rfl, hk, g0, g1, g2, g3, g4, g5, g6, g7, g8, g9, g10, g11, g12⟩ K hK
    have hla := last_false (L := 12) hcl hbl rfl (by kernel_rfl) hbi
    clear he
    go_simp
    exact hK _ _ ⟨_, _, _, _, _, _, _, _, _, _, _, _, rfl, hk, fun h => g0 (by simpa using h), fun h => g1 (by simpa using h), fun h => g2 (by simpa using h), fun h => g3 (by simpa using h), fun h => g4 (by simpa using h), fun h => g5 (by simpa using h), fun h => g6 (by simpa using h), fun _ => rfl, fun h => g8 (by simpa using h), fun h => g9 (by simpa using h), fun h => g10 (by simpa using h), fun h _ => (fun g => g) (g11 (by simpa using h) hla), fun h => (fun g => by simp [hla] at h) (g12 (by simpa using h))⟩
  case o1_8 =>
    rintro b ac u hbl hbi hcl he ⟨t5, t11, t12, t13, t14, t15, t16, t17, t18, t19, t20, t21, rfl, hk, g0, g1, g2, g3, g4, g5, g6, g7, g8, g9, g10, g11, g12⟩ K hK
    have hla := last_false (L := 12) hcl hbl rfl (by kernel_rfl) hbi
    have p7 : b[7]? = some true := by simp [Region.binds] at he; simp [he]
    obtain rfl := g7 p7
    clear he
    have cC := (own_cells (own_below hk hC)).1
    have fC := (own_cells (own_below hk hC)).2
    go_simp
    exact hK _ _ ⟨_, _, _, _, _, _, _, _, _, _, _, _, rfl, hk, fun h => g0 (by simpa using h), fun h => g1 (by simpa using h), fun h => g2 (by simpa using h), fun h => g3 (by simpa using h), fun h => g4 (by simpa using h), fun h => g5 (by simpa using h), fun h => g6 (by simpa using h), fun h => g7 (by simpa using h), fun _ => rfl, fun h => g9 (by simpa using h), fun h => g10 (by simpa using h), fun h _ => (fun g => g) (g11 (by simpa using h) hla), fun h => (fun g => by simp [hla] at h) (g12 (by simpa using h))⟩
  case o1_9 =>
    rintro b ac u hbl hbi hcl he ⟨t5, t11, t12, t13, t14, t15, t16, t17, t18, t19, t20, t21, rfl, hk, g0, g1, g2, g3, g4, g5, g6, g7, g8, g9, g10, g11, g12⟩ K hK
    have hla := last_false (L := 12) hcl hbl rfl (by kernel_rfl) hbi
    have p6 : b[6]? = some true := by simp [Region.binds] at he; simp [he]
    have p8 : b[8]? = some true := by simp [Region.binds] at he; simp [he]
    obtain rfl := g6 p6
    obtain rfl := g8 p8
    clear he
    have hl4' : (l : Int) < 4 := by omega
    go_simp
    exact hK _ _ ⟨_, _, _, _, _, _, _, _, _, _, _, _, rfl, hk, fun h => g0 (by simpa using h), fun h => g1 (by simpa using h), fun h => g2 (by simpa using h), fun h => g3 (by simpa using h), fun h => g4 (by simpa using h), fun h => g5 (by simpa using h), fun h => g6 (by simpa using h), fun h => g7 (by simpa using h), fun h => g8 (by simpa using h), fun _ => rfl, fun h => g10 (by simpa using h), fun h _ => (fun g => g) (g11 (by simpa using h) hla), fun h => (fun g => by simp [hla] at h) (g12 (by simpa using h))⟩
  case o1_10 =>
    rintro b ac u hbl hbi hcl he ⟨t5, t11, t12, t13, t14, t15, t16, t17, t18, t19, t20, t21, rfl, hk, g0, g1, g2, g3, g4, g5, g6, g7, g8, g9, g10, g11, g12⟩ K hK
    have hla := last_false (L := 12) hcl hbl rfl (by kernel_rfl) hbi
    have p9 : b[9]? = some true := by simp [Region.binds] at he; simp [he]
    obtain rfl := g9 p9
    clear he
    obtain ⟨x0, x1, x2, x3, x4⟩ := FX u (tt.trans (hk.mono tt.size))
    go_simp
    exact hK _ _ ⟨_, _, _, _, _, _, _, _, _, _, _, _, rfl, hk, fun h => g0 (by simpa using h), fun h => g1 (by simpa using h), fun h => g2 (by simpa using h), fun h => g3 (by simpa using h), fun h => g4 (by simpa using h), fun h => g5 (by simpa using h), fun h => g6 (by simpa using h), fun h => g7 (by simpa using h), fun h => g8 (by simpa using h), fun h => g9 (by simpa using h), fun _ => rfl, fun h _ => (fun g => g) (g11 (by simpa using h) hla), fun h => (fun g => by simp [hla] at h) (g12 (by simpa using h))⟩
  case o1_11 =>
    rintro b ac u hbl hbi hcl he ⟨t5, t11, t12, t13, t14, t15, t16, t17, t18, t19, t20, t21, rfl, hk, g0, g1, g2, g3, g4, g5, g6, g7, g8, g9, g10, g11, g12⟩ K hK
    have hla := last_false (L := 12) hcl hbl rfl (by kernel_rfl) hbi
    clear he
    go_simp
    have hk' := hk.alloc hk.size (.cells #[.int .i64 0, .int .i64 0, .bool false, .bool false, .bool false] 38)
    exact hK _ _ ⟨_, _, _, _, _, _, _, _, _, _, _, _, rfl, hk', fun h => g0 (by simpa using h), fun h => g1 (by simpa using h), fun h => g2 (by simpa using h), fun h => g3 (by simpa using h), fun h => g4 (by simpa using h), fun h => g5 (by simpa using h), fun h => g6 (by simpa using h), fun h => g7 (by simpa using h), fun h => g8 (by simpa using h), fun h => g9 (by simpa using h), fun h => g10 (by simpa using h), fun _ _ => ⟨_, rfl, hk.size, own_new _ _⟩, fun h => (fun g => by simp [hla] at h) (g12 (by simpa using h))⟩
  case o1_12 =>
    rintro b ac u hbl hbi hcl he ⟨t5, t11, t12, t13, t14, t15, t16, t17, t18, t19, t20, t21, rfl, hk, g0, g1, g2, g3, g4, g5, g6, g7, g8, g9, g10, g11, g12⟩ K hK
    have hla := hbi
    have p11 : b[11]? = some true := by simp [Region.binds] at he; simp [he]
    have p10 : b[10]? = some true := by simp [Region.binds] at he; simp [he]
    obtain ⟨X, rfl, hXW, hX⟩ := g11 p11 hla
    obtain rfl := g10 p10
    clear he
    have cX := (own_cells hX).1
    have fX := (own_cells hX).2
    go_simp
    exact hK _ _ ⟨_, _, _, _, _, _, _, _, _, _, _, _, rfl, below_setR hk hXW 0 ⟨xt, xv, xr, xw, xk⟩, fun h => g0 (by simpa using h), fun h => g1 (by simpa using h), fun h => g2 (by simpa using h), fun h => g3 (by simpa using h), fun h => g4 (by simpa using h), fun h => g5 (by simpa using h), fun h => g6 (by simpa using h), fun h => g7 (by simpa using h), fun h => g8 (by simpa using h), fun h => g9 (by simpa using h), fun h => g10 (by simpa using h), fun _ h => (by simp [hbl] at h), fun _ => ⟨X, rfl, hXW, own_setR hX 0 ⟨xt, xv, xr, xw, xk⟩⟩⟩
  rintro ac u ⟨t5, t11, t12, t13, t14, t15, t16, t17, t18, t19, t20, t21, rfl, hk, g0, g1, g2, g3, g4, g5, g6, g7, g8, g9, g10, g11, g12⟩
  replace g0 := g0 (by simp)
  replace g1 := g1 (by simp)
  replace g2 := g2 (by simp)
  replace g3 := g3 (by simp)
  replace g4 := g4 (by simp)
  replace g5 := g5 (by simp)
  replace g6 := g6 (by simp)
  replace g7 := g7 (by simp)
  replace g8 := g8 (by simp)
  replace g9 := g9 (by simp)
  replace g10 := g10 (by simp)
  clear g11
  replace g12 := g12 (by simp)
  obtain ⟨X, rfl, hXW, hX⟩ := g12
  replace tt := tt.trans (hk.mono tt.size)
  replace hC := own_below hk hC
  clear hk hXW g0 g1 g2 g3 g4 g5 g6 g7 g8 g9 g10 fSl FX
  obtain ⟨cC, fC⟩ := own_cells hC
  go_wp2_with fail
  refine (CR.out _).mono ?_
  rintro e w3 ⟨N, rfl, hNb, hN, hb⟩
  clear cC fC
  replace tt := tt.trans (hb.mono tt.size)
  replace hC := own_below hb hC
  replace hX := own_below hb hX
  clear hb hNb
  rcases hfit with hx0 | ⟨i, ti, rfl, hxi, hv⟩
  · have d1 : (xt == 0) = true := by simp [hx0]
    have q : chkRt ts k ((j : Int) + 1) ⟨xt, xv, xr, xw, xk⟩ = -1 := by simp [chkRt, d1]
    have Q := hid q
    clear q hx0
    go_upto_region 5 with fail
    refine wp_region_quiet_below (by kernel_rfl) (by kernel_rfl) ?_
    iterate 3 ((with_reducible apply qval); (case hw => exact rfl); (case h => (intro v hu; obtain ⟨_, _⟩ := own_cells (own_below hu hX); obtain ⟨_, _⟩ := own_cells (own_below hu hN); obtain ⟨_, _⟩ := own_cells (own_below hu hC); go_simp; exact rfl)); (intro K hK; go_simp; (with_reducible refine hK _ ?_); clear hK K))
    (refine qval_skips (.bool true) 11 rfl (by kernel_rfl) ?_ ?_; (intro v hu; go_simp); (intro K hK; simp only [skipAct, List.drop_succ_cons, List.drop_zero] at hK ⊢; go_simp; (with_reducible refine hK _ ?_); clear hK K))
    iterate 1 ((with_reducible apply qval); (case hw => exact rfl); (case h => (intro v hu; obtain ⟨_, _⟩ := own_cells (own_below hu hX); obtain ⟨_, _⟩ := own_cells (own_below hu hN); obtain ⟨_, _⟩ := own_cells (own_below hu hC); go_simp; exact rfl)); (intro K hK; go_simp; (with_reducible refine hK _ ?_); clear hK K))
    (refine qval_skips (.bool true) 8 rfl (by kernel_rfl) ?_ ?_; (intro v hu; go_simp); (intro K hK; simp only [skipAct, List.drop_succ_cons, List.drop_zero] at hK ⊢; go_simp; (with_reducible refine hK _ ?_); clear hK K))
    iterate 1 ((with_reducible apply qval); (case hw => exact rfl); (case h => (intro v hu; obtain ⟨_, _⟩ := own_cells (own_below hu hX); obtain ⟨_, _⟩ := own_cells (own_below hu hN); obtain ⟨_, _⟩ := own_cells (own_below hu hC); go_simp; exact rfl)); (intro K hK; go_simp; (with_reducible refine hK _ ?_); clear hK K))
    (refine qval_skips (.bool true) 8 rfl (by kernel_rfl) ?_ ?_; (intro v hu; go_simp); (intro K hK; simp only [skipAct, List.drop_succ_cons, List.drop_zero] at hK ⊢; go_simp; (with_reducible refine hK _ ?_); clear hK K))
    iterate 1 ((with_reducible apply qval); (case hw => exact rfl); (case h => (intro v hu; obtain ⟨_, _⟩ := own_cells (own_below hu hX); obtain ⟨_, _⟩ := own_cells (own_below hu hN); obtain ⟨_, _⟩ := own_cells (own_below hu hC); go_simp; exact rfl)); (intro K hK; go_simp; (with_reducible refine hK _ ?_); clear hK K))
    refine wpQuiet_nil ?_
    intro v hu
    replace tt := tt.trans (hu.mono tt.size)
    clear hX hN hC hu
    go_wp2_with fail
    go_ret
    rw [Q.out]
    exact ⟨rfl, tt⟩
  have him : i < m := by rw [EM.out]; exact (List.getElem?_eq_some_iff.1 hxi).1
  have hwi := wr_small him (show m ≤ 9223372036854775807 by rw [EM.out]; exact HT.out.len)
  have FK := fun v (hv : Below w.heap.size w v) => (show v.cell? ⟨tb, off + i * 8, none⟩ = some (.int .i64 ti.kind) from by
    obtain ⟨b', off', e, _, h⟩ := HT.out.get hxi
    cases e
    exact (h v hv).knd)
  have CSs := hid (fun v (hv : Below w.heap.size w v) => l11Sees_at (some ⟨tb, off, none⟩) c ts v (HT.out.below hv) i j (by rw [← EM.out]; exact him) (by rw [← EM.out]; exact hjm) HOK.out)
  have CTt := hid (fun v (hv : Below w.heap.size w v) => l11Touches_at (some ⟨tb, off, none⟩) c ts v (HT.out.below hv) i j (by rw [← EM.out]; exact him) (by rw [← EM.out]; exact hjm) HOK.out)
  have CLv := hid (fun v (hv : Below w.heap.size w v) => l3Live_any (some ⟨tb, off, none⟩) c ts ⟨(i : Int) + 1, xv, xr, xw, xk⟩ v (HT.out.below hv))
  rw [← EM.out] at CSs CTt CLv
  obtain ⟨hk, ehk⟩ : ∃ b, b = (needKinds k).any (· == ti.kind) := ⟨_, rfl⟩
  obtain ⟨bad1, eb1⟩ : ∃ b, b = (!hk || ((rd && !xr) || (wr && !xw))) := ⟨_, rfl⟩
  obtain ⟨se, ese⟩ : ∃ b, b = flowAt ts ((i : Int) + 1) ((j : Int) + 1) := ⟨_, rfl⟩
  obtain ⟨to_, eto⟩ : ∃ b, b = flowAt ts ((j : Int) + 1) ((i : Int) + 1) := ⟨_, rfl⟩
  obtain ⟨lv, elv⟩ : ∃ b, b = liveB ts ⟨(i : Int) + 1, xv, xr, xw, xk⟩ := ⟨_, rfl⟩
  obtain ⟨bad2, eb2⟩ : ∃ b, b = ((rd && !se) || (wr && !to_)) := ⟨_, rfl⟩
  have d1 : ((i : Int) + 1 == 0) = false := by simp; omega
  have q : chkRt ts k ((j : Int) + 1) ⟨(i : Int) + 1, xv, xr, xw, xk⟩ = cond bad1 (-1) (cond bad2 (-2) (cond (se && !lv) (-3) 0)) := by
    unfold chkRt
    dsimp only
    rw [d1, kdAt_of hxi, erd, ewr, ← ehk, ← ese, ← eto, ← elv, ← eb2, eb1]
    cases hk <;> cases ((rd && !xr) || (wr && !xw)) <;> cases bad2 <;> cases se <;> cases lv <;> rfl
  have Q := hid q
  rw [← ese] at CSs
  rw [← eto] at CTt
  rw [← elv] at CLv
  replace CKd := hid (fun u => CKd.out ti.kind u)
  rw [← ehk] at CKd
  have EB1 := hid eb1
  have EB2 := hid eb2
  clear q ese eto elv ehk eb1 eb2 hxi hv erd ewr CR
  go_upto_region 5 with fail
  go_cut [60] from 25 to 60 (fun c wx => c = .bool bad1 ∧ Below w3.heap.size w3 wx)
  case first =>
    have eb1 := EB1.out
    clear EB1 EB2 CSs CTt CLv
    subst eb1

    refine wp_region_quiet_below (by kernel_rfl) (by kernel_rfl) ?_
    cases hk
    case false =>
      iterate 13 ((with_reducible apply qval); (case hw => exact rfl); (case h => (intro v hu; obtain ⟨_, _⟩ := own_cells (own_below hu hX); obtain ⟨_, _⟩ := own_cells (own_below hu hN); obtain ⟨_, _⟩ := own_cells (own_below hu hC); have := FK v (tt.trans (hu.mono tt.size)); go_simp; exact rfl)); (intro K hK; go_simp; (with_reducible refine hK _ ?_); clear hK K))
      ((with_reducible apply qcall); (case hw => exact rfl); (case h => (intro v hu; go_simp; exact ⟨rfl, rfl⟩)); (case hc => (intro v hu; with_reducible exact Calls.in_below hu (CKd.out _))); (intro K hK; go_simp; (with_reducible refine hK _ ?_); clear hK K))
      iterate 2 ((with_reducible apply qval); (case hw => exact rfl); (case h => (intro v hu; obtain ⟨_, _⟩ := own_cells (own_below hu hX); obtain ⟨_, _⟩ := own_cells (own_below hu hN); obtain ⟨_, _⟩ := own_cells (own_below hu hC); have := FK v (tt.trans (hu.mono tt.size)); go_simp; exact rfl)); (intro K hK; go_simp; (with_reducible refine hK _ ?_); clear hK K))
      (refine qval_skips (.bool true) 8 rfl (by kernel_rfl) ?_ ?_; (intro v hu; go_simp); (intro K hK; simp only [skipAct, List.drop_succ_cons, List.drop_zero] at hK ⊢; go_simp; (with_reducible refine hK _ ?_); clear hK K))
      iterate 1 ((with_reducible apply qval); (case hw => exact rfl); (case h => (intro v hu; obtain ⟨_, _⟩ := own_cells (own_below hu hX); obtain ⟨_, _⟩ := own_cells (own_below hu hN); obtain ⟨_, _⟩ := own_cells (own_below hu hC); have := FK v (tt.trans (hu.mono tt.size)); go_simp; exact rfl)); (intro K hK; go_simp; (with_reducible refine hK _ ?_); clear hK K))
      (refine qval_skips (.bool true) 8 rfl (by kernel_rfl) ?_ ?_; (intro v hu; go_simp); (intro K hK; simp only [skipAct, List.drop_succ_cons, List.drop_zero] at hK ⊢; go_simp; (with_reducible refine hK _ ?_); clear hK K))
      iterate 1 ((with_reducible apply qval); (case hw => exact rfl); (case h => (intro v hu; obtain ⟨_, _⟩ := own_cells (own_below hu hX); obtain ⟨_, _⟩ := own_cells (own_below hu hN); obtain ⟨_, _⟩ := own_cells (own_below hu hC); have := FK v (tt.trans (hu.mono tt.size)); go_simp; exact rfl)); (intro K hK; go_simp; (with_reducible refine hK _ ?_); clear hK K))
      refine wpQuiet_nil ?_
      intro v hu
      go_wp2
      go_meet
      exact ⟨rfl, hu⟩
    case true =>
    cases rd
    case false =>
      cases wr
      case false =>
        iterate 13 ((with_reducible apply qval); (case hw => exact rfl); (case h => (intro v hu; obtain ⟨_, _⟩ := own_cells (own_below hu hX); obtain ⟨_, _⟩ := own_cells (own_below hu hN); obtain ⟨_, _⟩ := own_cells (own_below hu hC); have := FK v (tt.trans (hu.mono tt.size)); go_simp; exact rfl)); (intro K hK; go_simp; (with_reducible refine hK _ ?_); clear hK K))
        ((with_reducible apply qcall); (case hw => exact rfl); (case h => (intro v hu; go_simp; exact ⟨rfl, rfl⟩)); (case hc => (intro v hu; with_reducible exact Calls.in_below hu (CKd.out _))); (intro K hK; go_simp; (with_reducible refine hK _ ?_); clear hK K))
        iterate 2 ((with_reducible apply qval); (case hw => exact rfl); (case h => (intro v hu; obtain ⟨_, _⟩ := own_cells (own_below hu hX); obtain ⟨_, _⟩ := own_cells (own_below hu hN); obtain ⟨_, _⟩ := own_cells (own_below hu hC); have := FK v (tt.trans (hu.mono tt.size)); go_simp; exact rfl)); (intro K hK; go_simp; (with_reducible refine hK _ ?_); clear hK K))
        iterate 1 ((with_reducible apply qval); (case hw => exact rfl); (case h => (intro v hu; obtain ⟨_, _⟩ := own_cells (own_below hu hX); obtain ⟨_, _⟩ := own_cells (own_below hu hN); obtain ⟨_, _⟩ := own_cells (own_below hu hC); have := FK v (tt.trans (hu.mono tt.size)); go_simp; exact rfl)); (intro K hK; go_simp; (with_reducible refine hK _ ?_); clear hK K))
        iterate 3 ((with_reducible apply qval); (case hw => exact rfl); (case h => (intro v hu; obtain ⟨_, _⟩ := own_cells (own_below hu hX); obtain ⟨_, _⟩ := own_cells (own_below hu hN); obtain ⟨_, _⟩ := own_cells (own_below hu hC); have := FK v (tt.trans (hu.mono tt.size)); go_simp; exact rfl)); (intro K hK; go_simp; (with_reducible refine hK _ ?_); clear hK K))
        (refine qval_skips (.bool false) 3 rfl (by kernel_rfl) ?_ ?_; (intro v hu; go_simp); (intro K hK; simp only [skipAct, List.drop_succ_cons, List.drop_zero] at hK ⊢; go_simp; (with_reducible refine hK _ ?_); clear hK K))
        iterate 1 ((with_reducible apply qval); (case hw => exact rfl); (case h => (intro v hu; obtain ⟨_, _⟩ := own_cells (own_below hu hX); obtain ⟨_, _⟩ := own_cells (own_below hu hN); obtain ⟨_, _⟩ := own_cells (own_below hu hC); have := FK v (tt.trans (hu.mono tt.size)); go_simp; exact rfl)); (intro K hK; go_simp; (with_reducible refine hK _ ?_); clear hK K))
        iterate 1 ((with_reducible apply qval); (case hw => exact rfl); (case h => (intro v hu; obtain ⟨_, _⟩ := own_cells (own_below hu hX); obtain ⟨_, _⟩ := own_cells (own_below hu hN); obtain ⟨_, _⟩ := own_cells (own_below hu hC); have := FK v (tt.trans (hu.mono tt.size)); go_simp; exact rfl)); (intro K hK; go_simp; (with_reducible refine hK _ ?_); clear hK K))
        iterate 1 ((with_reducible apply qval); (case hw => exact rfl); (case h => (intro v hu; obtain ⟨_, _⟩ := own_cells (own_below hu hX); obtain ⟨_, _⟩ := own_cells (own_below hu hN); obtain ⟨_, _⟩ := own_cells (own_below hu hC); have := FK v (tt.trans (hu.mono tt.size)); go_simp; exact rfl)); (intro K hK; go_simp; (with_reducible refine hK _ ?_); clear hK K))
        iterate 3 ((with_reducible apply qval); (case hw => exact rfl); (case h => (intro v hu; obtain ⟨_, _⟩ := own_cells (own_below hu hX); obtain ⟨_, _⟩ := own_cells (own_below hu hN); obtain ⟨_, _⟩ := own_cells (own_below hu hC); have := FK v (tt.trans (hu.mono tt.size)); go_simp; exact rfl)); (intro K hK; go_simp; (with_reducible refine hK _ ?_); clear hK K))
        (refine qval_skips (.bool false) 3 rfl (by kernel_rfl) ?_ ?_; (intro v hu; go_simp); (intro K hK; simp only [skipAct, List.drop_succ_cons, List.drop_zero] at hK ⊢; go_simp; (with_reducible refine hK _ ?_); clear hK K))
        iterate 1 ((with_reducible apply qval); (case hw => exact rfl); (case h => (intro v hu; obtain ⟨_, _⟩ := own_cells (own_below hu hX); obtain ⟨_, _⟩ := own_cells (own_below hu hN); obtain ⟨_, _⟩ := own_cells (own_below hu hC); have := FK v (tt.trans (hu.mono tt.size)); go_simp; exact rfl)); (intro K hK; go_simp; (with_reducible refine hK _ ?_); clear hK K))
        iterate 1 ((with_reducible apply qval); (case hw => exact rfl); (case h => (intro v hu; obtain ⟨_, _⟩ := own_cells (own_below hu hX); obtain ⟨_, _⟩ := own_cells (own_below hu hN); obtain ⟨_, _⟩ := own_cells (own_below hu hC); have := FK v (tt.trans (hu.mono tt.size)); go_simp; exact rfl)); (intro K hK; go_simp; (with_reducible refine hK _ ?_); clear hK K))
        refine wpQuiet_nil ?_
        intro v hu
        go_wp2
        go_meet
        exact ⟨rfl, hu⟩
      case true =>
        cases xw <;>
        (skip
         iterate 13 ((with_reducible apply qval); (case hw => exact rfl); (case h => (intro v hu; obtain ⟨_, _⟩ := own_cells (own_below hu hX); obtain ⟨_, _⟩ := own_cells (own_below hu hN); obtain ⟨_, _⟩ := own_cells (own_below hu hC); have := FK v (tt.trans (hu.mono tt.size)); go_simp; exact rfl)); (intro K hK; go_simp; (with_reducible refine hK _ ?_); clear hK K))
         ((with_reducible apply qcall); (case hw => exact rfl); (case h => (intro v hu; go_simp; exact ⟨rfl, rfl⟩)); (case hc => (intro v hu; with_reducible exact Calls.in_below hu (CKd.out _))); (intro K hK; go_simp; (with_reducible refine hK _ ?_); clear hK K))
         iterate 2 ((with_reducible apply qval); (case hw => exact rfl); (case h => (intro v hu; obtain ⟨_, _⟩ := own_cells (own_below hu hX); obtain ⟨_, _⟩ := own_cells (own_below hu hN); obtain ⟨_, _⟩ := own_cells (own_below hu hC); have := FK v (tt.trans (hu.mono tt.size)); go_simp; exact rfl)); (intro K hK; go_simp; (with_reducible refine hK _ ?_); clear hK K))
         iterate 1 ((with_reducible apply qval); (case hw => exact rfl); (case h => (intro v hu; obtain ⟨_, _⟩ := own_cells (own_below hu hX); obtain ⟨_, _⟩ := own_cells (own_below hu hN); obtain ⟨_, _⟩ := own_cells (own_below hu hC); have := FK v (tt.trans (hu.mono tt.size)); go_simp; exact rfl)); (intro K hK; go_simp; (with_reducible refine hK _ ?_); clear hK K))
         iterate 3 ((with_reducible apply qval); (case hw => exact rfl); (case h => (intro v hu; obtain ⟨_, _⟩ := own_cells (own_below hu hX); obtain ⟨_, _⟩ := own_cells (own_below hu hN); obtain ⟨_, _⟩ := own_cells (own_below hu hC); have := FK v (tt.trans (hu.mono tt.size)); go_simp; exact rfl)); (intro K hK; go_simp; (with_reducible refine hK _ ?_); clear hK K))
         (refine qval_skips (.bool false) 3 rfl (by kernel_rfl) ?_ ?_; (intro v hu; go_simp); (intro K hK; simp only [skipAct, List.drop_succ_cons, List.drop_zero] at hK ⊢; go_simp; (with_reducible refine hK _ ?_); clear hK K))
         iterate 1 ((with_reducible apply qval); (case hw => exact rfl); (case h => (intro v hu; obtain ⟨_, _⟩ := own_cells (own_below hu hX); obtain ⟨_, _⟩ := own_cells (own_below hu hN); obtain ⟨_, _⟩ := own_cells (own_below hu hC); have := FK v (tt.trans (hu.mono tt.size)); go_simp; exact rfl)); (intro K hK; go_simp; (with_reducible refine hK _ ?_); clear hK K))
         iterate 1 ((with_reducible apply qval); (case hw => exact rfl); (case h => (intro v hu; obtain ⟨_, _⟩ := own_cells (own_below hu hX); obtain ⟨_, _⟩ := own_cells (own_below hu hN); obtain ⟨_, _⟩ := own_cells (own_below hu hC); have := FK v (tt.trans (hu.mono tt.size)); go_simp; exact rfl)); (intro K hK; go_simp; (with_reducible refine hK _ ?_); clear hK K))
         iterate 1 ((with_reducible apply qval); (case hw => exact rfl); (case h => (intro v hu; obtain ⟨_, _⟩ := own_cells (own_below hu hX); obtain ⟨_, _⟩ := own_cells (own_below hu hN); obtain ⟨_, _⟩ := own_cells (own_below hu hC); have := FK v (tt.trans (hu.mono tt.size)); go_simp; exact rfl)); (intro K hK; go_simp; (with_reducible refine hK _ ?_); clear hK K))
         iterate 3 ((with_reducible apply qval); (case hw => exact rfl); (case h => (intro v hu; obtain ⟨_, _⟩ := own_cells (own_below hu hX); obtain ⟨_, _⟩ := own_cells (own_below hu hN); obtain ⟨_, _⟩ := own_cells (own_below hu hC); have := FK v (tt.trans (hu.mono tt.size)); go_simp; exact rfl)); (intro K hK; go_simp; (with_reducible refine hK _ ?_); clear hK K))
         iterate 1 ((with_reducible apply qval); (case hw => exact rfl); (case h => (intro v hu; obtain ⟨_, _⟩ := own_cells (own_below hu hX); obtain ⟨_, _⟩ := own_cells (own_below hu hN); obtain ⟨_, _⟩ := own_cells (own_below hu hC); have := FK v (tt.trans (hu.mono tt.size)); go_simp; exact rfl)); (intro K hK; go_simp; (with_reducible refine hK _ ?_); clear hK K))
         iterate 4 ((with_reducible apply qval); (case hw => exact rfl); (case h => (intro v hu; obtain ⟨_, _⟩ := own_cells (own_below hu hX); obtain ⟨_, _⟩ := own_cells (own_below hu hN); obtain ⟨_, _⟩ := own_cells (own_below hu hC); have := FK v (tt.trans (hu.mono tt.size)); go_simp; exact rfl)); (intro K hK; go_simp; (with_reducible refine hK _ ?_); clear hK K))
         iterate 1 ((with_reducible apply qval); (case hw => exact rfl); (case h => (intro v hu; obtain ⟨_, _⟩ := own_cells (own_below hu hX); obtain ⟨_, _⟩ := own_cells (own_below hu hN); obtain ⟨_, _⟩ := own_cells (own_below hu hC); have := FK v (tt.trans (hu.mono tt.size)); go_simp; exact rfl)); (intro K hK; go_simp; (with_reducible refine hK _ ?_); clear hK K))
         refine wpQuiet_nil ?_
         intro v hu
         go_wp2
         go_meet
         exact ⟨rfl, hu⟩)
    case true =>
      cases xr
      case false =>
        iterate 13 ((with_reducible apply qval); (case hw => exact rfl); (case h => (intro v hu; obtain ⟨_, _⟩ := own_cells (own_below hu hX); obtain ⟨_, _⟩ := own_cells (own_below hu hN); obtain ⟨_, _⟩ := own_cells (own_below hu hC); have := FK v (tt.trans (hu.mono tt.size)); go_simp; exact rfl)); (intro K hK; go_simp; (with_reducible refine hK _ ?_); clear hK K))
        ((with_reducible apply qcall); (case hw => exact rfl); (case h => (intro v hu; go_simp; exact ⟨rfl, rfl⟩)); (case hc => (intro v hu; with_reducible exact Calls.in_below hu (CKd.out _))); (intro K hK; go_simp; (with_reducible refine hK _ ?_); clear hK K))
        iterate 2 ((with_reducible apply qval); (case hw => exact rfl); (case h => (intro v hu; obtain ⟨_, _⟩ := own_cells (own_below hu hX); obtain ⟨_, _⟩ := own_cells (own_below hu hN); obtain ⟨_, _⟩ := own_cells (own_below hu hC); have := FK v (tt.trans (hu.mono tt.size)); go_simp; exact rfl)); (intro K hK; go_simp; (with_reducible refine hK _ ?_); clear hK K))
        iterate 1 ((with_reducible apply qval); (case hw => exact rfl); (case h => (intro v hu; obtain ⟨_, _⟩ := own_cells (own_below hu hX); obtain ⟨_, _⟩ := own_cells (own_below hu hN); obtain ⟨_, _⟩ := own_cells (own_below hu hC); have := FK v (tt.trans (hu.mono tt.size)); go_simp; exact rfl)); (intro K hK; go_simp; (with_reducible refine hK _ ?_); clear hK K))
        iterate 3 ((with_reducible apply qval); (case hw => exact rfl); (case h => (intro v hu; obtain ⟨_, _⟩ := own_cells (own_below hu hX); obtain ⟨_, _⟩ := own_cells (own_below hu hN); obtain ⟨_, _⟩ := own_cells (own_below hu hC); have := FK v (tt.trans (hu.mono tt.size)); go_simp; exact rfl)); (intro K hK; go_simp; (with_reducible refine hK _ ?_); clear hK K))
        iterate 1 ((with_reducible apply qval); (case hw => exact rfl); (case h => (intro v hu; obtain ⟨_, _⟩ := own_cells (own_below hu hX); obtain ⟨_, _⟩ := own_cells (own_below hu hN); obtain ⟨_, _⟩ := own_cells (own_below hu hC); have := FK v (tt.trans (hu.mono tt.size)); go_simp; exact rfl)); (intro K hK; go_simp; (with_reducible refine hK _ ?_); clear hK K))
        iterate 4 ((with_reducible apply qval); (case hw => exact rfl); (case h => (intro v hu; obtain ⟨_, _⟩ := own_cells (own_below hu hX); obtain ⟨_, _⟩ := own_cells (own_below hu hN); obtain ⟨_, _⟩ := own_cells (own_below hu hC); have := FK v (tt.trans (hu.mono tt.size)); go_simp; exact rfl)); (intro K hK; go_simp; (with_reducible refine hK _ ?_); clear hK K))
        iterate 1 ((with_reducible apply qval); (case hw => exact rfl); (case h => (intro v hu; obtain ⟨_, _⟩ := own_cells (own_below hu hX); obtain ⟨_, _⟩ := own_cells (own_below hu hN); obtain ⟨_, _⟩ := own_cells (own_below hu hC); have := FK v (tt.trans (hu.mono tt.size)); go_simp; exact rfl)); (intro K hK; go_simp; (with_reducible refine hK _ ?_); clear hK K))
        (refine qval_skips (.bool true) 8 rfl (by kernel_rfl) ?_ ?_; (intro v hu; go_simp); (intro K hK; simp only [skipAct, List.drop_succ_cons, List.drop_zero] at hK ⊢; go_simp; (with_reducible refine hK _ ?_); clear hK K))
        iterate 1 ((with_reducible apply qval); (case hw => exact rfl); (case h => (intro v hu; obtain ⟨_, _⟩ := own_cells (own_below hu hX); obtain ⟨_, _⟩ := own_cells (own_below hu hN); obtain ⟨_, _⟩ := own_cells (own_below hu hC); have := FK v (tt.trans (hu.mono tt.size)); go_simp; exact rfl)); (intro K hK; go_simp; (with_reducible refine hK _ ?_); clear hK K))
        refine wpQuiet_nil ?_
        intro v hu
        go_wp2
        go_meet
        exact ⟨rfl, hu⟩
      case true =>
        cases wr
        case false =>
          iterate 13 ((with_reducible apply qval); (case hw => exact rfl); (case h => (intro v hu; obtain ⟨_, _⟩ := own_cells (own_below hu hX); obtain ⟨_, _⟩ := own_cells (own_below hu hN); obtain ⟨_, _⟩ := own_cells (own_below hu hC); have := FK v (tt.trans (hu.mono tt.size)); go_simp; exact rfl)); (intro K hK; go_simp; (with_reducible refine hK _ ?_); clear hK K))
          ((with_reducible apply qcall); (case hw => exact rfl); (case h => (intro v hu; go_simp; exact ⟨rfl, rfl⟩)); (case hc => (intro v hu; with_reducible exact Calls.in_below hu (CKd.out _))); (intro K hK; go_simp; (with_reducible refine hK _ ?_); clear hK K))
          iterate 2 ((with_reducible apply qval); (case hw => exact rfl); (case h => (intro v hu; obtain ⟨_, _⟩ := own_cells (own_below hu hX); obtain ⟨_, _⟩ := own_cells (own_below hu hN); obtain ⟨_, _⟩ := own_cells (own_below hu hC); have := FK v (tt.trans (hu.mono tt.size)); go_simp; exact rfl)); (intro K hK; go_simp; (with_reducible refine hK _ ?_); clear hK K))
          iterate 1 ((with_reducible apply qval); (case hw => exact rfl); (case h => (intro v hu; obtain ⟨_, _⟩ := own_cells (own_below hu hX); obtain ⟨_, _⟩ := own_cells (own_below hu hN); obtain ⟨_, _⟩ := own_cells (own_below hu hC); have := FK v (tt.trans (hu.mono tt.size)); go_simp; exact rfl)); (intro K hK; go_simp; (with_reducible refine hK _ ?_); clear hK K))
          iterate 3 ((with_reducible apply qval); (case hw => exact rfl); (case h => (intro v hu; obtain ⟨_, _⟩ := own_cells (own_below hu hX); obtain ⟨_, _⟩ := own_cells (own_below hu hN); obtain ⟨_, _⟩ := own_cells (own_below hu hC); have := FK v (tt.trans (hu.mono tt.size)); go_simp; exact rfl)); (intro K hK; go_simp; (with_reducible refine hK _ ?_); clear hK K))
          iterate 1 ((with_reducible apply qval); (case hw => exact rfl); (case h => (intro v hu; obtain ⟨_, _⟩ := own_cells (own_below hu hX); obtain ⟨_, _⟩ := own_cells (own_below hu hN); obtain ⟨_, _⟩ := own_cells (own_below hu hC); have := FK v (tt.trans (hu.mono tt.size)); go_simp; exact rfl)); (intro K hK; go_simp; (with_reducible refine hK _ ?_); clear hK K))
          iterate 4 ((with_reducible apply qval); (case hw => exact rfl); (case h => (intro v hu; obtain ⟨_, _⟩ := own_cells (own_below hu hX); obtain ⟨_, _⟩ := own_cells (own_below hu hN); obtain ⟨_, _⟩ := own_cells (own_below hu hC); have := FK v (tt.trans (hu.mono tt.size)); go_simp; exact rfl)); (intro K hK; go_simp; (with_reducible refine hK _ ?_); clear hK K))
          iterate 1 ((with_reducible apply qval); (case hw => exact rfl); (case h => (intro v hu; obtain ⟨_, _⟩ := own_cells (own_below hu hX); obtain ⟨_, _⟩ := own_cells (own_below hu hN); obtain ⟨_, _⟩ := own_cells (own_below hu hC); have := FK v (tt.trans (hu.mono tt.size)); go_simp; exact rfl)); (intro K hK; go_simp; (with_reducible refine hK _ ?_); clear hK K))
          iterate 1 ((with_reducible apply qval); (case hw => exact rfl); (case h => (intro v hu; obtain ⟨_, _⟩ := own_cells (own_below hu hX); obtain ⟨_, _⟩ := own_cells (own_below hu hN); obtain ⟨_, _⟩ := own_cells (own_below hu hC); have := FK v (tt.trans (hu.mono tt.size)); go_simp; exact rfl)); (intro K hK; go_simp; (with_reducible refine hK _ ?_); clear hK K))
          iterate 3 ((with_reducible apply qval); (case hw => exact rfl); (case h => (intro v hu; obtain ⟨_, _⟩ := own_cells (own_below hu hX); obtain ⟨_, _⟩ := own_cells (own_below hu hN); obtain ⟨_, _⟩ := own_cells (own_below hu hC); have := FK v (tt.trans (hu.mono tt.size)); go_simp; exact rfl)); (intro K hK; go_simp; (with_reducible refine hK _ ?_); clear hK K))
          (refine qval_skips (.bool false) 3 rfl (by kernel_rfl) ?_ ?_; (intro v hu; go_simp); (intro K hK; simp only [skipAct, List.drop_succ_cons, List.drop_zero] at hK ⊢; go_simp; (with_reducible refine hK _ ?_); clear hK K))
          iterate 1 ((with_reducible apply qval); (case hw => exact rfl); (case h => (intro v hu; obtain ⟨_, _⟩ := own_cells (own_below hu hX); obtain ⟨_, _⟩ := own_cells (own_below hu hN); obtain ⟨_, _⟩ := own_cells (own_below hu hC); have := FK v (tt.trans (hu.mono tt.size)); go_simp; exact rfl)); (intro K hK; go_simp; (with_reducible refine hK _ ?_); clear hK K))
          iterate 1 ((with_reducible apply qval); (case hw => exact rfl); (case h => (intro v hu; obtain ⟨_, _⟩ := own_cells (own_below hu hX); obtain ⟨_, _⟩ := own_cells (own_below hu hN); obtain ⟨_, _⟩ := own_cells (own_below hu hC); have := FK v (tt.trans (hu.mono tt.size)); go_simp; exact rfl)); (intro K hK; go_simp; (with_reducible refine hK _ ?_); clear hK K))
          refine wpQuiet_nil ?_
          intro v hu
          go_wp2
          go_meet
          exact ⟨rfl, hu⟩
        case true =>
          cases xw <;>
          (skip
           iterate 13 ((with_reducible apply qval); (case hw => exact rfl); (case h => (intro v hu; obtain ⟨_, _⟩ := own_cells (own_below hu hX); obtain ⟨_, _⟩ := own_cells (own_below hu hN); obtain ⟨_, _⟩ := own_cells (own_below hu hC); have := FK v (tt.trans (hu.mono tt.size)); go_simp; exact rfl)); (intro K hK; go_simp; (with_reducible refine hK _ ?_); clear hK K))
           ((with_reducible apply qcall); (case hw => exact rfl); (case h => (intro v hu; go_simp; exact ⟨rfl, rfl⟩)); (case hc => (intro v hu; with_reducible exact Calls.in_below hu (CKd.out _))); (intro K hK; go_simp; (with_reducible refine hK _ ?_); clear hK K))
           iterate 2 ((with_reducible apply qval); (case hw => exact rfl); (case h => (intro v hu; obtain ⟨_, _⟩ := own_cells (own_below hu hX); obtain ⟨_, _⟩ := own_cells (own_below hu hN); obtain ⟨_, _⟩ := own_cells (own_below hu hC); have := FK v (tt.trans (hu.mono tt.size)); go_simp; exact rfl)); (intro K hK; go_simp; (with_reducible refine hK _ ?_); clear hK K))
           iterate 1 ((with_reducible apply qval); (case hw => exact rfl); (case h => (intro v hu; obtain ⟨_, _⟩ := own_cells (own_below hu hX); obtain ⟨_, _⟩ := own_cells (own_below hu hN); obtain ⟨_, _⟩ := own_cells (own_below hu hC); have := FK v (tt.trans (hu.mono tt.size)); go_simp; exact rfl)); (intro K hK; go_simp; (with_reducible refine hK _ ?_); clear hK K))
           iterate 3 ((with_reducible apply qval); (case hw => exact rfl); (case h => (intro v hu; obtain ⟨_, _⟩ := own_cells (own_below hu hX); obtain ⟨_, _⟩ := own_cells (own_below hu hN); obtain ⟨_, _⟩ := own_cells (own_below hu hC); have := FK v (tt.trans (hu.mono tt.size)); go_simp; exact rfl)); (intro K hK; go_simp; (with_reducible refine hK _ ?_); clear hK K))
           iterate 1 ((with_reducible apply qval); (case hw => exact rfl); (case h => (intro v hu; obtain ⟨_, _⟩ := own_cells (own_below hu hX); obtain ⟨_, _⟩ := own_cells (own_below hu hN); obtain ⟨_, _⟩ := own_cells (own_below hu hC); have := FK v (tt.trans (hu.mono tt.size)); go_simp; exact rfl)); (intro K hK; go_simp; (with_reducible refine hK _ ?_); clear hK K))
           iterate 4 ((with_reducible apply qval); (case hw => exact rfl); (case h => (intro v hu; obtain ⟨_, _⟩ := own_cells (own_below hu hX); obtain ⟨_, _⟩ := own_cells (own_below hu hN); obtain ⟨_, _⟩ := own_cells (own_below hu hC); have := FK v (tt.trans (hu.mono tt.size)); go_simp; exact rfl)); (intro K hK; go_simp; (with_reducible refine hK _ ?_); clear hK K))
           iterate 1 ((with_reducible apply qval); (case hw => exact rfl); (case h => (intro v hu; obtain ⟨_, _⟩ := own_cells (own_below hu hX); obtain ⟨_, _⟩ := own_cells (own_below hu hN); obtain ⟨_, _⟩ := own_cells (own_below hu hC); have := FK v (tt.trans (hu.mono tt.size)); go_simp; exact rfl)); (intro K hK; go_simp; (with_reducible refine hK _ ?_); clear hK K))
           iterate 1 ((with_reducible apply qval); (case hw => exact rfl); (case h => (intro v hu; obtain ⟨_, _⟩ := own_cells (own_below hu hX); obtain ⟨_, _⟩ := own_cells (own_below hu hN); obtain ⟨_, _⟩ := own_cells (own_below hu hC); have := FK v (tt.trans (hu.mono tt.size)); go_simp; exact rfl)); (intro K hK; go_simp; (with_reducible refine hK _ ?_); clear hK K))
           iterate 3 ((with_reducible apply qval); (case hw => exact rfl); (case h => (intro v hu; obtain ⟨_, _⟩ := own_cells (own_below hu hX); obtain ⟨_, _⟩ := own_cells (own_below hu hN); obtain ⟨_, _⟩ := own_cells (own_below hu hC); have := FK v (tt.trans (hu.mono tt.size)); go_simp; exact rfl)); (intro K hK; go_simp; (with_reducible refine hK _ ?_); clear hK K))
           iterate 1 ((with_reducible apply qval); (case hw => exact rfl); (case h => (intro v hu; obtain ⟨_, _⟩ := own_cells (own_below hu hX); obtain ⟨_, _⟩ := own_cells (own_below hu hN); obtain ⟨_, _⟩ := own_cells (own_below hu hC); have := FK v (tt.trans (hu.mono tt.size)); go_simp; exact rfl)); (intro K hK; go_simp; (with_reducible refine hK _ ?_); clear hK K))
           iterate 4 ((with_reducible apply qval); (case hw => exact rfl); (case h => (intro v hu; obtain ⟨_, _⟩ := own_cells (own_below hu hX); obtain ⟨_, _⟩ := own_cells (own_below hu hN); obtain ⟨_, _⟩ := own_cells (own_below hu hC); have := FK v (tt.trans (hu.mono tt.size)); go_simp; exact rfl)); (intro K hK; go_simp; (with_reducible refine hK _ ?_); clear hK K))
           iterate 1 ((with_reducible apply qval); (case hw => exact rfl); (case h => (intro v hu; obtain ⟨_, _⟩ := own_cells (own_below hu hX); obtain ⟨_, _⟩ := own_cells (own_below hu hN); obtain ⟨_, _⟩ := own_cells (own_below hu hC); have := FK v (tt.trans (hu.mono tt.size)); go_simp; exact rfl)); (intro K hK; go_simp; (with_reducible refine hK _ ?_); clear hK K))
           refine wpQuiet_nil ?_
           intro v hu
           go_wp2
           go_meet
           exact ⟨rfl, hu⟩)
  case rest =>
  obtain ⟨rfl, hb⟩ := hcut
  replace tt := tt.trans (hb.mono tt.size)
  replace hC := own_below hb hC
  replace hX := own_below hb hX
  replace hN := own_below hb hN
  clear hb FK CKd
  obtain ⟨cX, fX⟩ := own_cells hX
  obtain ⟨cC, fC⟩ := own_cells hC
  cases bad1
  case true =>
    go_wp2_with fail
    go_ret
    rw [Q.out]
    exact ⟨rfl, tt⟩
  case false =>
  go_wp2_with fail
  refine (CSs.out _ tt).mono ?_
  rintro e w5 ⟨rfl, hb⟩
  (try clear cX fX); (try clear cC fC)
  replace tt := tt.trans (hb.mono tt.size)
  replace hC := own_below hb hC
  replace hX := own_below hb hX
  replace hN := own_below hb hN
  clear hb
  obtain ⟨cN, fN⟩ := own_cells hN
  obtain ⟨cX, fX⟩ := own_cells hX
  obtain ⟨cC, fC⟩ := own_cells hC
  go_upto_region 8 with fail
  go_cut [87] from 67 to 87 (fun c wx => c = .bool bad2 ∧ Below w5.heap.size w5 wx)
  case first =>
    have eb2 := EB2.out
    clear EB1 EB2
    subst eb2
    cases rd <;> cases se <;> cases wr <;>
    (go_wp2_with fail
     first
     | (go_meet
        exact ⟨rfl, Below.refl _ _⟩)
     | (refine (CTt.out _ tt).mono ?_
        rintro e w4 ⟨rfl, hb⟩
        cases to_ <;>
        (go_wp2_with fail
         go_meet
         exact ⟨rfl, hb⟩)))
  case rest =>
  obtain ⟨rfl, hb⟩ := hcut
  (try clear cN fN); (try clear cX fX); (try clear cC fC)
  replace tt := tt.trans (hb.mono tt.size)
  replace hX := own_below hb hX
  clear hb hC hN
  cases bad2
  case true =>
    go_wp2_with fail
    go_ret
    rw [Q.out]
    exact ⟨rfl, tt⟩
  case false =>
  obtain ⟨cX, fX⟩ := own_cells hX
  cases se
  · go_wp2_with fail
    go_ret
    rw [Q.out]
    exact ⟨rfl, tt⟩
  · go_wp2_with fail
    refine (CLv.out _ tt).mono ?_
    rintro e w6 ⟨rfl, hb⟩
    (try clear cX fX)
    replace tt := tt.trans (hb.mono tt.size)
    clear hb
    cases lv
    · go_wp2_with fail
      go_ret
      rw [Q.out]
      exact ⟨rfl, tt⟩
    · go_wp2_with fail
      go_ret
      rw [Q.out]
      exact ⟨rfl, tt⟩
set_option maxHeartbeats 4000000 in
theorem scheckCall_any (ta : Option Addr) (c : Nat) (ts : List Th) (k run a bb n : Int) (w : World) (hT : RowT w ta ts) :
    Calls Tryd.prog 10 #[.slice ta ts.length c, .agg #[.int .i64 k, .int .i64 run, .int .i64 a, .int .i64 bb, .int .i64 n]] w fun e w' => e = .returned (.int .i64 (chkCall ts k run a bb n)) ∧ Below w.heap.size w w' := by
  have tt : Below w.heap.size w w := Below.refl _ _
  have CT := hid (fun u (hu : Below w.heap.size w u) => stableOk_any ta c ts u (hT.below hu))
  have CC := hid (fun u => scallOk_any k run a bb n u)
  have CK := hid (fun u (hu : Below w.heap.size w u) => l11Run_any ta c ts run u (hT.below hu))
  have CL := hid (fun (h : callB ts k run a bb n = true) u (hu : Below w.heap.size w u) => l11Check_any ta c ts k run a bb n u (hT.below hu) h)
  have hA := own_new w (.cells #[.int .i64 k, .int .i64 run, .int .i64 a, .int .i64 bb, .int .i64 n] 25)
  have qn : callB ts k run a bb n = false → chkCall ts k run a bb n = -1 := fun h => by simp [chkCall, h]
  obtain ⟨v, ev⟩ : ∃ v, v = chkCall ts k run a bb n := ⟨_, rfl⟩
  obtain ⟨b1, f1⟩ : ∃ b, b = tblOk ts := ⟨_, rfl⟩
  obtain ⟨b2, f2⟩ : ∃ b', b' = clOk k run a bb n := ⟨_, rfl⟩
  obtain ⟨b3, f3⟩ : ∃ b, b = kindAtB ts run 3 := ⟨_, rfl⟩
  have qb : callB ts k run a bb n = (b1 && (b2 && b3)) := by rw [f1, f2, f3]; rfl
  rw [← f1] at CT
  rw [← f2] at CC
  rw [← f3] at CK
  rw [← ev] at CL qn ⊢
  rw [qb] at CL qn
  clear f1 f2 f3 hT ev qb
  generalize ts.length = m at *
  cases b1 <;> cases b2 <;> cases b3
  case true.true.true =>
    replace CL := hid (CL.out rfl)
    clear qn
    go_enter Tryd.func10, Tryd.ntmps10
    go_wp2_with (first | (go_at_call 11; refine (CT.out _ (by (have zt := tt.size); (repeat (first | with_reducible exact tt | (with_reducible refine Below.setCell ?_ ?_ _) | (with_reducible refine Below.alloc ?_ ?_ _) | with_reducible refine Below.drew ?_)); (all_goals (first | omega | (simp <;> omega))))).mono ?_; rintro e w' ⟨rfl, hb⟩; (try clear cc_hA ff_hA); (try clear zz_hA zy_hA); have zt := tt.size; (replace tt : Below w.heap.size w w' := by (refine Below.trans ?_ (hb.mono ?_)); (all_goals (repeat (first | with_reducible exact tt | (with_reducible refine Below.setCell ?_ ?_ _) | (with_reducible refine Below.alloc ?_ ?_ _) | with_reducible refine Below.drew ?_)); (all_goals (first | omega | (simp <;> omega))))); clear zt; replace hA := own_below hb (by repeat (first | exact hA | apply own_alloc)); obtain ⟨cc_hA, ff_hA⟩ := own_cells hA; have zz_hA := own_lt hA; have zy_hA := Nat.lt_add_right 1 (own_lt hA); clear hb) | (go_at_call 12; refine (CC.out _).mono ?_; rintro e w' ⟨rfl, hb⟩; (try clear cc_hA ff_hA); (try clear zz_hA zy_hA); have zt := tt.size; (replace tt : Below w.heap.size w w' := by (refine Below.trans ?_ (hb.mono ?_)); (all_goals (repeat (first | with_reducible exact tt | (with_reducible refine Below.setCell ?_ ?_ _) | (with_reducible refine Below.alloc ?_ ?_ _) | with_reducible refine Below.drew ?_)); (all_goals (first | omega | (simp <;> omega))))); clear zt; replace hA := own_below hb (by repeat (first | exact hA | apply own_alloc)); obtain ⟨cc_hA, ff_hA⟩ := own_cells hA; have zz_hA := own_lt hA; have zy_hA := Nat.lt_add_right 1 (own_lt hA); clear hb) | (go_at_call 26; refine (CK.out _ (by (have zt := tt.size); (repeat (first | with_reducible exact tt | (with_reducible refine Below.setCell ?_ ?_ _) | (with_reducible refine Below.alloc ?_ ?_ _) | with_reducible refine Below.drew ?_)); (all_goals (first | omega | (simp <;> omega))))).mono ?_; rintro e w' ⟨rfl, hb⟩; (try clear cc_hA ff_hA); (try clear zz_hA zy_hA); have zt := tt.size; (replace tt : Below w.heap.size w w' := by (refine Below.trans ?_ (hb.mono ?_)); (all_goals (repeat (first | with_reducible exact tt | (with_reducible refine Below.setCell ?_ ?_ _) | (with_reducible refine Below.alloc ?_ ?_ _) | with_reducible refine Below.drew ?_)); (all_goals (first | omega | (simp <;> omega))))); clear zt; replace hA := own_below hb (by repeat (first | exact hA | apply own_alloc)); obtain ⟨cc_hA, ff_hA⟩ := own_cells hA; have zz_hA := own_lt hA; have zy_hA := Nat.lt_add_right 1 (own_lt hA); clear hb) | (go_at_call 27; refine (CL.out _ (by (have zt := tt.size); (repeat (first | with_reducible exact tt | (with_reducible refine Below.setCell ?_ ?_ _) | (with_reducible refine Below.alloc ?_ ?_ _) | with_reducible refine Below.drew ?_)); (all_goals (first | omega | (simp <;> omega))))).mono ?_; rintro e w' ⟨rfl, hb⟩; (try clear cc_hA ff_hA); (try clear zz_hA zy_hA); have zt := tt.size; (replace tt : Below w.heap.size w w' := by (refine Below.trans ?_ (hb.mono ?_)); (all_goals (repeat (first | with_reducible exact tt | (with_reducible refine Below.setCell ?_ ?_ _) | (with_reducible refine Below.alloc ?_ ?_ _) | with_reducible refine Below.drew ?_)); (all_goals (first | omega | (simp <;> omega))))); clear zt; replace hA := own_below hb (by repeat (first | exact hA | apply own_alloc)); obtain ⟨cc_hA, ff_hA⟩ := own_cells hA; have zz_hA := own_lt hA; have zy_hA := Nat.lt_add_right 1 (own_lt hA); clear hb))
    go_ret
    refine ⟨rfl, ?_⟩
    have zt := tt.size
    (repeat (first | with_reducible exact tt | (with_reducible refine Below.setCell ?_ ?_ _) | (with_reducible refine Below.alloc ?_ ?_ _) | (with_reducible refine Below.drew ?_) | with_reducible refine Below.drewN' ?_ _)); (all_goals (first | omega | (simp <;> omega)))
  all_goals
    obtain rfl := qn rfl
    clear CL qn
    go_enter Tryd.func10, Tryd.ntmps10
    go_wp2_with (first | (go_at_call 11; refine (CT.out _ (by (have zt := tt.size); (repeat (first | with_reducible exact tt | (with_reducible refine Below.setCell ?_ ?_ _) | (with_reducible refine Below.alloc ?_ ?_ _) | with_reducible refine Below.drew ?_)); (all_goals (first | omega | (simp <;> omega))))).mono ?_; rintro e w' ⟨rfl, hb⟩; (try clear cc_hA ff_hA); (try clear zz_hA zy_hA); have zt := tt.size; (replace tt : Below w.heap.size w w' := by (refine Below.trans ?_ (hb.mono ?_)); (all_goals (repeat (first | with_reducible exact tt | (with_reducible refine Below.setCell ?_ ?_ _) | (with_reducible refine Below.alloc ?_ ?_ _) | with_reducible refine Below.drew ?_)); (all_goals (first | omega | (simp <;> omega))))); clear zt; replace hA := own_below hb (by repeat (first | exact hA | apply own_alloc)); obtain ⟨cc_hA, ff_hA⟩ := own_cells hA; have zz_hA := own_lt hA; have zy_hA := Nat.lt_add_right 1 (own_lt hA); clear hb) | (go_at_call 12; refine (CC.out _).mono ?_; rintro e w' ⟨rfl, hb⟩; (try clear cc_hA ff_hA); (try clear zz_hA zy_hA); have zt := tt.size; (replace tt : Below w.heap.size w w' := by (refine Below.trans ?_ (hb.mono ?_)); (all_goals (repeat (first | with_reducible exact tt | (with_reducible refine Below.setCell ?_ ?_ _) | (with_reducible refine Below.alloc ?_ ?_ _) | with_reducible refine Below.drew ?_)); (all_goals (first | omega | (simp <;> omega))))); clear zt; replace hA := own_below hb (by repeat (first | exact hA | apply own_alloc)); obtain ⟨cc_hA, ff_hA⟩ := own_cells hA; have zz_hA := own_lt hA; have zy_hA := Nat.lt_add_right 1 (own_lt hA); clear hb) | (go_at_call 26; refine (CK.out _ (by (have zt := tt.size); (repeat (first | with_reducible exact tt | (with_reducible refine Below.setCell ?_ ?_ _) | (with_reducible refine Below.alloc ?_ ?_ _) | with_reducible refine Below.drew ?_)); (all_goals (first | omega | (simp <;> omega))))).mono ?_; rintro e w' ⟨rfl, hb⟩; (try clear cc_hA ff_hA); (try clear zz_hA zy_hA); have zt := tt.size; (replace tt : Below w.heap.size w w' := by (refine Below.trans ?_ (hb.mono ?_)); (all_goals (repeat (first | with_reducible exact tt | (with_reducible refine Below.setCell ?_ ?_ _) | (with_reducible refine Below.alloc ?_ ?_ _) | with_reducible refine Below.drew ?_)); (all_goals (first | omega | (simp <;> omega))))); clear zt; replace hA := own_below hb (by repeat (first | exact hA | apply own_alloc)); obtain ⟨cc_hA, ff_hA⟩ := own_cells hA; have zz_hA := own_lt hA; have zy_hA := Nat.lt_add_right 1 (own_lt hA); clear hb))
    go_ret
    refine ⟨rfl, ?_⟩
    have zt := tt.size
    (repeat (first | with_reducible exact tt | (with_reducible refine Below.setCell ?_ ?_ _) | (with_reducible refine Below.alloc ?_ ?_ _) | (with_reducible refine Below.drew ?_) | with_reducible refine Below.drewN' ?_ _)); (all_goals (first | omega | (simp <;> omega)))
end Go.Proofs.YtcgmnpppdoadhaaDoor
