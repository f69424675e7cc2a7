/- What is told of a call: a contract of the program's examineCall. No condition but where the arguments lie. -/
import Derived.Test.YtcgmnpppdoadhaaDoorReq
import Derived.Test.YtcgmnpppdoadhaaDoorTbForm
import Derived.Deep.CutRange
import Derived.Deep.CutBlock
import Derived.StillTailTactics
namespace Go.Proofs.YtcgmnpppdoadhaaDoor
set_option maxRecDepth 100000
open Go Go.RowKit
set_option linter.unusedVariables false
set_option linter.unusedSimpArgs false

/-- An error that bears the answer v, or none where v is 0. -/
def Exam (v : Int) (w : World) (e : Ending) (w' : World) : Prop :=
  Below w.heap.size w w' ∧ ((v = 0 ∧ e = .returned .nilIface) ∨ ∃ B : Nat, w.heap.size ≤ B ∧ e = .returned (.iface 52 (.pointer (some ⟨B, 0, none⟩))) ∧ w'.heap[B]? = some (.cells #[.int .i64 v] 59 (0, 0)))
theorem Exam.no {v : Int} {w u : World} (h : Below w.heap.size w u) : Exam v w (.returned (.iface 52 (.pointer (some ⟨u.heap.size, 0, none⟩)))) (u.alloc (.cells #[.int .i64 v] 59)) :=
  ⟨h.alloc h.size _, .inr ⟨_, h.size, rfl, own_new _ _⟩⟩
theorem Exam.yes {w u : World} (h : Below w.heap.size w u) : Exam 0 w (.returned .nilIface) u := ⟨h, .inl ⟨rfl, rfl⟩⟩
/-- Where a call is possible: its runner, the right. -/
theorem callB_at {ts : List Th} {k run a b n : Int} (h : callB ts k run a b n = true) : tblOk ts = true ∧ inB k 1 9 = true ∧ ∃ (j l : Nat) (t : Th) (x : Rt), run = (j : Int) + 1 ∧ a = (l : Int) ∧ ts[j]? = some t ∧ l < 4 ∧ t.slots.length = 4 ∧ t.slots[l]? = some x ∧ t.kind = 3 ∧ rAt ts run a = x := by
  unfold callB at h
  simp only [Bool.and_eq_true] at h
  obtain ⟨h1, h2, h3⟩ := h
  obtain ⟨j, hj, hjm⟩ := inB_nat (kindAtB_in h3)
  have hx : ts[j]? = some ts[j] := by simp [hjm]
  have hk : (ts[j]).kind = 3 := by
    unfold kindAtB at h3
    rw [hj, show ((j : Int) + 1 - 1).toNat = j by omega, hx] at h3
    simp only [Bool.and_eq_true] at h3
    simpa using h3.2
  have hok : (ts[j]).ok = true := by
    unfold tblOk at h1
    simp only [Bool.and_eq_true, List.all_eq_true] at h1
    exact (h1.1.2 _ (List.mem_of_getElem? hx)).1
  have hl : (ts[j]).slots.length = 4 := by
    have := ((thOk_iff _ _ _ _ _ _ _ _).1 hok).1
    unfold Lin at this
    omega
  unfold clOk at h2
  simp only [Bool.and_eq_true] at h2
  have ha : 0 ≤ a ∧ a ≤ 3 := by simpa [inB] using h2.1.1.2
  have hxl : (ts[j]).slots[a.toNat]? = some ((ts[j]).slots[a.toNat]'(by omega)) := by simp
  refine ⟨h1, h2.1.1.1.1, j, a.toNat, ts[j], _, hj, by omega, hx, by omega, hl, hxl, hk, ?_⟩
  unfold rAt
  rw [hj, show ((j : Int) + 1 - 1).toNat = j by omega, hx]
  simp only [Option.bind_some, hxl, Option.getD_some]
theorem below_setR {B g : Nat} {w u : World} (h : Below B w u) (hg : B ≤ g) (o : Nat) (r : Rt) : Below B w (setR u g o r) :=
  ((((h.setCell (p := ⟨g, o, none⟩) hg _).setCell (p := ⟨g, o + 1, none⟩) hg _).setCell (p := ⟨g, o + 2, none⟩) hg _).setCell (p := ⟨g, o + 3, none⟩) hg _).setCell (p := ⟨g, o + 4, none⟩) hg _
theorem kdAt_of {ts : List Th} {i : Nat} {t : Th} (h : ts[i]? = some t) : kdAt ts ((i : Int) + 1) = t.kind := by
  unfold kdAt; rw [show ((i : Int) + 1 - 1).toNat = i by omega, h]; rfl
set_option maxHeartbeats 4000000 in
set_option maxRecDepth 100000 in
theorem examineCall_any (ta : Option Addr) (c : Nat) (ts : List Th) (k run a bb n : Int) (w : World) (hT : RowT w ta ts) :
    Calls Tryd.prog 25 #[.slice ta ts.length c, .agg #[.int .i64 k, .int .i64 run, .int .i64 a, .int .i64 bb, .int .i64 n]] w (Exam (chkCall ts k run a bb n) w) := by
  have tt : Below w.heap.size w w := Below.refl _ _
  have hC := own_new w (.cells #[.int .i64 k, .int .i64 run, .int .i64 a, .int .i64 bb, .int .i64 n] 25)
  have CP := hid (fun u (hu : Below w.heap.size w u) => callPossible_any ta c ts k run a bb n u (hT.below hu))
  cases e0 : callB ts k run a bb n
  · have q : chkCall ts k run a bb n = -1 := by simp [chkCall, e0]
    rw [q]
    rw [e0] at CP
    clear q e0 hT
    generalize ts.length = m at *
    go_enter Tryd.func25, Tryd.ntmps25
    go_wp2_with (first | (go_at_call 45; refine (CP.out _ (by (have zt := tt.size); (repeat (first | with_reducible exact tt | (with_reducible refine Below.setCell ?_ ?_ _) | (with_reducible refine Below.alloc ?_ ?_ _) | with_reducible refine Below.drew ?_)); (all_goals (first | omega | (simp <;> omega))))).mono ?_; rintro e w' ⟨rfl, hb⟩; (try clear cc_hC ff_hC); (try clear zz_hC zy_hC); have zt := tt.size; (replace tt : Below w.heap.size w w' := by (refine Below.trans ?_ (hb.mono ?_)); (all_goals (repeat (first | with_reducible exact tt | (with_reducible refine Below.setCell ?_ ?_ _) | (with_reducible refine Below.alloc ?_ ?_ _) | with_reducible refine Below.drew ?_)); (all_goals (first | omega | (simp <;> omega))))); clear zt; replace hC := own_below hb (by repeat (first | exact hC | apply own_alloc)); obtain ⟨cc_hC, ff_hC⟩ := own_cells hC; have zz_hC := own_lt hC; have zy_hC := Nat.lt_add_right 1 (own_lt hC); clear hb))
    go_ret
    exact Exam.no tt
  rw [e0] at CP
  cases e1 : (k == 3)
  case true =>
    have q : chkCall ts k run a bb n = 0 := by simp [chkCall, e0, e1]
    rw [q]
    clear q e0 hT
    generalize ts.length = m at *
    go_enter Tryd.func25, Tryd.ntmps25
    go_wp2_with (first | (go_at_call 45; refine (CP.out _ (by (have zt := tt.size); (repeat (first | with_reducible exact tt | (with_reducible refine Below.setCell ?_ ?_ _) | (with_reducible refine Below.alloc ?_ ?_ _) | with_reducible refine Below.drew ?_)); (all_goals (first | omega | (simp <;> omega))))).mono ?_; rintro e w' ⟨rfl, hb⟩; (try clear cc_hC ff_hC); (try clear zz_hC zy_hC); have zt := tt.size; (replace tt : Below w.heap.size w w' := by (refine Below.trans ?_ (hb.mono ?_)); (all_goals (repeat (first | with_reducible exact tt | (with_reducible refine Below.setCell ?_ ?_ _) | (with_reducible refine Below.alloc ?_ ?_ _) | with_reducible refine Below.drew ?_)); (all_goals (first | omega | (simp <;> omega))))); clear zt; replace hC := own_below hb (by repeat (first | exact hC | apply own_alloc)); obtain ⟨cc_hC, ff_hC⟩ := own_cells hC; have zz_hC := own_lt hC; have zy_hC := Nat.lt_add_right 1 (own_lt hC); clear hb))
    go_ret
    exact Exam.yes tt
  case false =>
  obtain ⟨hok, hk9, j, l, t, x, rfl, rfl, hx, hl4, hlen, hxl, hkd, hrA⟩ := callB_at e0
  have q : chkCall ts k ((j : Int) + 1) (l : Int) bb n = chkRt ts k ((j : Int) + 1) x := by
    unfold chkCall; rw [e0, e1, hrA]; rfl
  rw [q]
  clear q e0 hrA
  have hjm : j < ts.length := (List.getElem?_eq_some_iff.1 hx).1
  have hwj := wr_small hjm hT.len
  have CR := hid (fun u => requirementOf_any k u hk9 e1)
  obtain ⟨tb, off, rfl, htb, TJ⟩ := hT.get hx
  obtain ⟨sa, sc, qa, qc, _, _, _, _, _, c5, _, _, hR, _⟩ := TJ w (Below.refl _ _)
  rw [hlen] at c5
  obtain ⟨g, go_, x', rfl, hxl', hg, q0, q1, q2, q3, q4⟩ := hR.at (k := l) (by omega)
  rw [hxl] at hxl'
  cases hxl'
  have hfit := fit_cases (tbl_fit hok hx hxl)
  have fSl := fun u (hu : Below w.heap.size w u) => (hu.cell (p := ⟨tb, off + j * 8 + 5, none⟩) htb).trans c5
  have FX := fun u (hu : Below w.heap.size w u) => show At5 u g (go_ + l * 5) x from ⟨(hu.cell (p := ⟨g, _, none⟩) hg).trans q0, (hu.cell (p := ⟨g, _, none⟩) hg).trans q1, (hu.cell (p := ⟨g, _, none⟩) hg).trans q2, (hu.cell (p := ⟨g, _, none⟩) hg).trans q3, (hu.cell (p := ⟨g, _, none⟩) hg).trans q4⟩
  have HT := hid hT
  have HX := hid hx
  clear TJ c5 hR q0 q1 q2 q3 q4 hx hxl hlen hkd hT
  obtain ⟨m, em⟩ : ∃ m, m = ts.length := ⟨_, rfl⟩
  rw [← em] at CP hjm ⊢
  have EM := hid em
  clear em
  obtain ⟨xt, xv, xr, xw, xk⟩ := x
  dsimp only [At5] at FX hfit
  go_enter Tryd.func25, Tryd.ntmps25
  go_wp2_with fail
  refine (CP.out _ (by (have zt := tt.size); (repeat (first | with_reducible exact tt | (with_reducible refine Below.setCell ?_ ?_ _) | (with_reducible refine Below.alloc ?_ ?_ _) | with_reducible refine Below.drew ?_)); (all_goals (first | omega | (simp <;> omega))))).mono ?_
  rintro e w' ⟨rfl, hb⟩
  (try clear cc_hC ff_hC); (try clear zz_hC zy_hC)
  have zt := tt.size
  replace tt : Below w.heap.size w w' := by (refine Below.trans ?_ (hb.mono ?_)); (all_goals (repeat (first | with_reducible exact tt | (with_reducible refine Below.setCell ?_ ?_ _) | (with_reducible refine Below.alloc ?_ ?_ _) | with_reducible refine Below.drew ?_)); (all_goals (first | omega | (simp <;> omega))))
  clear zt
  replace hC := own_below hb (by repeat (first | exact hC | apply own_alloc))
  obtain ⟨cc_hC, ff_hC⟩ := own_cells hC; have zz_hC := own_lt hC; have zy_hC := Nat.lt_add_right 1 (own_lt hC)
  clear hb
  go_wp2_with fail
  refine (CR.out _).mono ?_
  rintro e w2 ⟨na, zs, nc, rfl, ezs, hZ, hb⟩
  (try clear cc_hC ff_hC); (try clear zz_hC zy_hC)
  replace hC := own_below hb hC
  replace tt := tt.trans (hb.mono tt.size)
  clear hb
  obtain ⟨cC, fC⟩ := own_cells hC
  have hzl := hZ.len
  have EZ := hid ezs
  clear ezs
  generalize erd : needRd k = rd at *
  generalize ewr : needWr k = wr at *
  have hN := own_new w2 (.cells #[.int .i64 k, .slice na zs.length nc, .bool rd, .bool wr, .bool rd, .bool wr] 90)
  have hB := (Below.refl w2.heap.size w2).alloc (Nat.le_refl _) (.cells #[.int .i64 k, .slice na zs.length nc, .bool rd, .bool wr, .bool rd, .bool wr] 90)
  replace tt := tt.trans (hB.mono tt.size)
  replace hC := own_below hB hC
  replace hZ := hZ.below hB
  have HZ := hid hZ
  obtain ⟨nz, enz⟩ : ∃ nz, nz = zs.length := ⟨_, rfl⟩
  rw [← enz] at hN hzl ⊢
  rw [← enz] at hC tt hZ
  have ENZ := hid enz
  clear enz
  go_upto_region 6 with fail
  clear cC fC
  generalize w2.heap.size = N at *
  refine named (p := fun W => Code.wp _ _ _ _ W) _ ?_
  intro W hW
  replace hN := own_eq hW hN
  replace hC := own_eq hW hC
  rw [hW] at tt hZ
  clear hW hB HZ
  refine wp_region_each (by kernel_rfl) (by kernel_rfl) (by kernel_rfl) (fun b ac u => ∃ t6 t21 t22 t23 t24 t25 t26 t27 t28 t29 t30 t31 : Value, ac = ⟨#[.slice (some ⟨tb, off, none⟩) m c, .agg #[.int .i64 k, .int .i64 ((j : Int) + 1), .int .i64 (l : Int), .int .i64 bb, .int .i64 n], undef, .pointer (some ⟨w.heap.size, 0, none⟩), .nilIface, .pointer (some ⟨N, 0, none⟩), t6, undef, .slice (some ⟨tb, off, none⟩) m c, .agg #[.int .i64 k, .int .i64 ((j : Int) + 1), .int .i64 (l : Int), .int .i64 bb, .int .i64 n], .bool true, .bool false, undef, undef, undef, .pointer (some ⟨w.heap.size, 0, none⟩), .int .i64 k, .bool false, .pointer (some ⟨w.heap.size, 0, none⟩), .int .i64 k, .agg #[.int .i64 k, .slice na nz nc, .bool rd, .bool wr, .bool rd, .bool wr], t21, t22, t23, t24, t25, t26, t27, t28, t29, t30, t31, undef, undef, undef, undef, undef, undef, undef, undef, undef, undef, undef, undef, undef, undef, undef, undef, undef, undef, undef, undef, undef, undef, undef, undef, undef, undef, undef, undef, undef, undef, undef, undef, undef, undef, undef, undef, undef, undef, undef, undef, undef, undef, undef, undef, undef, undef, undef, undef, undef, undef, undef, undef, undef, undef, undef, undef, undef, undef, undef, undef, undef, undef, undef, undef, undef, undef, undef, undef, undef, undef, undef, undef, undef, undef, undef], []⟩ ∧ (Below W.heap.size W u) ∧ (b[0]? = some true → t21 = .slice (some ⟨tb, off, none⟩) m c) ∧ (b[1]? = some true → t22 = .pointer (some ⟨w.heap.size, 1, none⟩)) ∧ (b[2]? = some true → t23 = .int .i64 ((j : Int) + 1)) ∧ (b[3]? = some true → t24 = .int .i64 (j : Int)) ∧ (b[4]? = some true → t25 = .pointer (some ⟨tb, off + j * 8, none⟩)) ∧ (b[5]? = some true → t26 = .pointer (some ⟨tb, off + j * 8 + 5, none⟩)) ∧ (b[6]? = some true → t27 = .slice (some ⟨g, go_, none⟩) 4 sc) ∧ (b[7]? = some true → t28 = .pointer (some ⟨w.heap.size, 2, none⟩)) ∧ (b[8]? = some true → t29 = .int .i64 (l : Int)) ∧ (b[9]? = some true → t30 = .pointer (some ⟨g, go_ + l * 5, none⟩)) ∧ (b[10]? = some true → t31 = .agg #[.int .i64 xt, .int .i64 xv, .bool xr, .bool xw, .bool xk]) ∧ (b[11]? = some true → b[12]? = some false → ∃ X : Nat, t6 = .pointer (some ⟨X, 0, none⟩) ∧ W.heap.size ≤ X ∧ u.heap[X]? = some (.cells #[.int .i64 0, .int .i64 0, .bool false, .bool false, .bool false] 38 (0, 0))) ∧ (b[12]? = some true → ∃ X : Nat, t6 = .pointer (some ⟨X, 0, none⟩) ∧ W.heap.size ≤ X ∧ u.heap[X]? = some (.cells #[.int .i64 xt, .int .i64 xv, .bool xr, .bool xw, .bool xk] 38 (0, 0)))) ?h0_1 ⟨?o1_0, ?o1_1, ?o1_2, ?o1_3, ?o1_4, ?o1_5, ?o1_6, ?o1_7, ?o1_8, ?o1_9, ?o1_10, ?o1_11, ?o1_12, trivial⟩ ?hend_1
  case h0_1 => exact ⟨undef, undef, undef, undef, undef, undef, undef, undef, undef, undef, undef, undef, rfl, (Below.refl _ _).drew, by simp, by simp, by simp, by simp, by simp, by simp, by simp, by simp, by simp, by simp, by simp, by simp, by simp⟩
  case o1_0 =>
    rintro b ac u hbl hbi hcl he ⟨t6, t21, t22, t23, t24, t25, t26, t27, t28, t29, t30, t31, rfl, hk, g0, g1, g2, g3, g4, g5, g6, g7, g8, g9, g10, g11, g12⟩ K hK
    have hla := last_false (L := 12) hcl hbl rfl (by kernel_rfl) hbi
    clear he
    go_simp
    exact hK _ _ ⟨_, _, _, _, _, _, _, _, _, _, _, _, rfl, hk, fun _ => rfl, fun h => g1 (by simpa using h), fun h => g2 (by simpa using h), fun h => g3 (by simpa using h), fun h => g4 (by simpa using h), fun h => g5 (by simpa using h), fun h => g6 (by simpa using h), fun h => g7 (by simpa using h), fun h => g8 (by simpa using h), fun h => g9 (by simpa using h), fun h => g10 (by simpa using h), fun h _ => (fun g => g) (g11 (by simpa using h) hla), fun h => (fun g => by simp [hla] at h) (g12 (by simpa using h))⟩
  case o1_1 =>
    rintro b ac u hbl hbi hcl he ⟨t6, t21, t22, t23, t24, t25, t26, t27, t28, t29, t30, t31, rfl, hk, g0, g1, g2, g3, g4, g5, g6, g7, g8, g9, g10, g11, g12⟩ K hK
    have hla := last_false (L := 12) hcl hbl rfl (by kernel_rfl) hbi
    clear he
    go_simp
    exact hK _ _ ⟨_, _, _, _, _, _, _, _, _, _, _, _, rfl, hk, fun h => g0 (by simpa using h), fun _ => rfl, fun h => g2 (by simpa using h), fun h => g3 (by simpa using h), fun h => g4 (by simpa using h), fun h => g5 (by simpa using h), fun h => g6 (by simpa using h), fun h => g7 (by simpa using h), fun h => g8 (by simpa using h), fun h => g9 (by simpa using h), fun h => g10 (by simpa using h), fun h _ => (fun g => g) (g11 (by simpa using h) hla), fun h => (fun g => by simp [hla] at h) (g12 (by simpa using h))⟩
  case o1_2 =>
    rintro b ac u hbl hbi hcl he ⟨t6, t21, t22, t23, t24, t25, t26, t27, t28, t29, t30, t31, rfl, hk, g0, g1, g2, g3, g4, g5, g6, g7, g8, g9, g10, g11, g12⟩ K hK
    have hla := last_false (L := 12) hcl hbl rfl (by kernel_rfl) hbi
    have p1 : b[1]? = some true := by simp [Region.binds] at he; simp [he]
    obtain rfl := g1 p1
    clear he
    have cC := (own_cells (own_below hk hC)).1
    have fC := (own_cells (own_below hk hC)).2
    go_simp
    exact hK _ _ ⟨_, _, _, _, _, _, _, _, _, _, _, _, rfl, hk, fun h => g0 (by simpa using h), fun h => g1 (by simpa using h), fun _ => rfl, fun h => g3 (by simpa using h), fun h => g4 (by simpa using h), fun h => g5 (by simpa using h), fun h => g6 (by simpa using h), fun h => g7 (by simpa using h), fun h => g8 (by simpa using h), fun h => g9 (by simpa using h), fun h => g10 (by simpa using h), fun h _ => (fun g => g) (g11 (by simpa using h) hla), fun h => (fun g => by simp [hla] at h) (g12 (by simpa using h))⟩
  case o1_3 =>
    rintro b ac u hbl hbi hcl he ⟨t6, t21, t22, t23, t24, t25, t26, t27, t28, t29, t30, t31, rfl, hk, g0, g1, g2, g3, g4, g5, g6, g7, g8, g9, g10, g11, g12⟩ K hK
    have hla := last_false (L := 12) hcl hbl rfl (by kernel_rfl) hbi
    have p2 : b[2]? = some true := by simp [Region.binds] at he; simp [he]
    obtain rfl := g2 p2
    clear he
    go_simp
    exact hK _ _ ⟨_, _, _, _, _, _, _, _, _, _, _, _, rfl, hk, fun h => g0 (by simpa using h), fun h => g1 (by simpa using h), fun h => g2 (by simpa using h), fun _ => rfl, fun h => g4 (by simpa using h), fun h => g5 (by simpa using h), fun h => g6 (by simpa using h), fun h => g7 (by simpa using h), fun h => g8 (by simpa using h), fun h => g9 (by simpa using h), fun h => g10 (by simpa using h), fun h _ => (fun g => g) (g11 (by simpa using h) hla), fun h => (fun g => by simp [hla] at h) (g12 (by simpa using h))⟩
  case o1_4 =>
    rintro b ac u hbl hbi hcl he ⟨t6, t21, t22, t23, t24, t25, t26, t27, t28, t29, t30, t31, rfl, hk, g0, g1, g2, g3, g4, g5, g6, g7, g8, g9, g10, g11, g12⟩ K hK
    have hla := last_false (L := 12) hcl hbl rfl (by kernel_rfl) hbi
    have p0 : b[0]? = some true := by simp [Region.binds] at he; simp [he]
    have p3 : b[3]? = some true := by simp [Region.binds] at he; simp [he]
    obtain rfl := g0 p0
    obtain rfl := g3 p3
    clear he
    go_simp
    exact hK _ _ ⟨_, _, _, _, _, _, _, _, _, _, _, _, rfl, hk, fun h => g0 (by simpa using h), fun h => g1 (by simpa using h), fun h => g2 (by simpa using h), fun h => g3 (by simpa using h), fun _ => rfl, fun h => g5 (by simpa using h), fun h => g6 (by simpa using h), fun h => g7 (by simpa using h), fun h => g8 (by simpa using h), fun h => g9 (by simpa using h), fun h => g10 (by simpa using h), fun h _ => (fun g => g) (g11 (by simpa using h) hla), fun h => (fun g => by simp [hla] at h) (g12 (by simpa using h))⟩
  case o1_5 =>
    rintro b ac u hbl hbi hcl he ⟨t6, t21, t22, t23, t24, t25, t26, t27, t28, t29, t30, t31, rfl, hk, g0, g1, g2, g3, g4, g5, g6, g7, g8, g9, g10, g11, g12⟩ K hK
    have hla := last_false (L := 12) hcl hbl rfl (by kernel_rfl) hbi
    have p4 : b[4]? = some true := by simp [Region.binds] at he; simp [he]
    obtain rfl := g4 p4
    clear he
    go_simp
    exact hK _ _ ⟨_, _, _, _, _, _, _, _, _, _, _, _, rfl, hk, fun h => g0 (by simpa using h), fun h => g1 (by simpa using h), fun h => g2 (by simpa using h), fun h => g3 (by simpa using h), fun h => g4 (by simpa using h), fun _ => rfl, fun h => g6 (by simpa using h), fun h => g7 (by simpa using h), fun h => g8 (by simpa using h), fun h => g9 (by simpa using h), fun h => g10 (by simpa using h), fun h _ => (fun g => g) (g11 (by simpa using h) hla), fun h => (fun g => by simp [hla] at h) (g12 (by simpa using h))⟩
  case o1_6 =>
    rintro b ac u hbl hbi hcl he ⟨t6, t21, t22, t23, t24, t25, t26, t27, t28, t29, t30, t31, rfl, hk, g0, g1, g2, g3, g4, g5, g6, g7, g8, g9, g10, g11, g12⟩ K hK
    have hla := last_false (L := 12) hcl hbl rfl (by kernel_rfl) hbi
    have p5 : b[5]? = some true := by simp [Region.binds] at he; simp [he]
    obtain rfl := g5 p5
    clear he
    have cS := fSl u (tt.trans (hk.mono tt.size))
    go_simp
    exact hK _ _ ⟨_, _, _, _, _, _, _, _, _, _, _, _, rfl, hk, fun h => g0 (by simpa using h), fun h => g1 (by simpa using h), fun h => g2 (by simpa using h), fun h => g3 (by simpa using h), fun h => g4 (by simpa using h), fun h => g5 (by simpa using h), fun _ => rfl, fun h => g7 (by simpa using h), fun h => g8 (by simpa using h), fun h => g9 (by simpa using h), fun h => g10 (by simpa using h), fun h _ => (fun g => g) (g11 (by simpa using h) hla), fun h => (fun g => by simp [hla] at h) (g12 (by simpa using h))⟩
  case o1_7 =>
    rintro b ac u hbl hbi hcl he ⟨t6, t21, t22, t23, t24, t25, t26, t27, t28, t29, t30, t31, rfl, hk, g0, g1, g2, g3, g4, g5, g6, g7, g8, g9, g10, g11, g12⟩ K hK
    have hla := last_false (L := 12) hcl hbl rfl (by kernel_rfl) hbi
    clear he
    go_simp
    exact hK _ _ ⟨_, _, _, _, _, _, _, _, _, _, _, _, rfl, hk, fun h => g0 (by simpa using h), fun h => g1 (by simpa using h), fun h => g2 (by simpa using h), fun h => g3 (by simpa using h), fun h => g4 (by simpa using h), fun h => g5 (by simpa using h), fun h => g6 (by simpa using h), fun _ => rfl, fun h => g8 (by simpa using h), fun h => g9 (by simpa using h), fun h => g10 (by simpa using h), fun h _ => (fun g => g) (g11 (by simpa using h) hla), fun h => (fun g => by simp [hla] at h) (g12 (by simpa using h))⟩
  case o1_8 =>
    rintro b ac u hbl hbi hcl he ⟨t6, t21, t22, t23, t24, t25, t26, t27, t28, t29, t30, t31, rfl, hk, g0, g1, g2, g3, g4, g5, g6, g7, g8, g9, g10, g11, g12⟩ K hK
    have hla := last_false (L := 12) hcl hbl rfl (by kernel_rfl) hbi
    have p7 : b[7]? = some true := by simp [Region.binds] at he; simp [he]
    obtain rfl := g7 p7
    clear he
    have cC := (own_cells (own_below hk hC)).1
    have fC := (own_cells (own_below hk hC)).2
    go_simp
    exact hK _ _ ⟨_, _, _, _, _, _, _, _, _, _, _, _, rfl, hk, fun h => g0 (by simpa using h), fun h => g1 (by simpa using h), fun h => g2 (by simpa using h), fun h => g3 (by simpa using h), fun h => g4 (by simpa using h), fun h => g5 (by simpa using h), fun h => g6 (by simpa using h), fun h => g7 (by simpa using h), fun _ => rfl, fun h => g9 (by simpa using h), fun h => g10 (by simpa using h), fun h _ => (fun g => g) (g11 (by simpa using h) hla), fun h => (fun g => by simp [hla] at h) (g12 (by simpa using h))⟩
  case o1_9 =>
    rintro b ac u hbl hbi hcl he ⟨t6, t21, t22, t23, t24, t25, t26, t27, t28, t29, t30, t31, rfl, hk, g0, g1, g2, g3, g4, g5, g6, g7, g8, g9, g10, g11, g12⟩ K hK
    have hla := last_false (L := 12) hcl hbl rfl (by kernel_rfl) hbi
    have p6 : b[6]? = some true := by simp [Region.binds] at he; simp [he]
    have p8 : b[8]? = some true := by simp [Region.binds] at he; simp [he]
    obtain rfl := g6 p6
    obtain rfl := g8 p8
    clear he
    have hl4' : (l : Int) < 4 := by omega
    go_simp
    exact hK _ _ ⟨_, _, _, _, _, _, _, _, _, _, _, _, rfl, hk, fun h => g0 (by simpa using h), fun h => g1 (by simpa using h), fun h => g2 (by simpa using h), fun h => g3 (by simpa using h), fun h => g4 (by simpa using h), fun h => g5 (by simpa using h), fun h => g6 (by simpa using h), fun h => g7 (by simpa using h), fun h => g8 (by simpa using h), fun _ => rfl, fun h => g10 (by simpa using h), fun h _ => (fun g => g) (g11 (by simpa using h) hla), fun h => (fun g => by simp [hla] at h) (g12 (by simpa using h))⟩
  case o1_10 =>
    rintro b ac u hbl hbi hcl he ⟨t6, t21, t22, t23, t24, t25, t26, t27, t28, t29, t30, t31, rfl, hk, g0, g1, g2, g3, g4, g5, g6, g7, g8, g9, g10, g11, g12⟩ K hK
    have hla := last_false (L := 12) hcl hbl rfl (by kernel_rfl) hbi
    have p9 : b[9]? = some true := by simp [Region.binds] at he; simp [he]
    obtain rfl := g9 p9
    clear he
    obtain ⟨x0, x1, x2, x3, x4⟩ := FX u (tt.trans (hk.mono tt.size))
    go_simp
    exact hK _ _ ⟨_, _, _, _, _, _, _, _, _, _, _, _, rfl, hk, fun h => g0 (by simpa using h), fun h => g1 (by simpa using h), fun h => g2 (by simpa using h), fun h => g3 (by simpa using h), fun h => g4 (by simpa using h), fun h => g5 (by simpa using h), fun h => g6 (by simpa using h), fun h => g7 (by simpa using h), fun h => g8 (by simpa using h), fun h => g9 (by simpa using h), fun _ => rfl, fun h _ => (fun g => g) (g11 (by simpa using h) hla), fun h => (fun g => by simp [hla] at h) (g12 (by simpa using h))⟩
  case o1_11 =>
    rintro b ac u hbl hbi hcl he ⟨t6, t21, t22, t23, t24, t25, t26, t27, t28, t29, t30, t31, rfl, hk, g0, g1, g2, g3, g4, g5, g6, g7, g8, g9, g10, g11, g12⟩ K hK
    have hla := last_false (L := 12) hcl hbl rfl (by kernel_rfl) hbi
    clear he
    go_simp
    have hk' := hk.alloc hk.size (.cells #[.int .i64 0, .int .i64 0, .bool false, .bool false, .bool false] 38)
    exact hK _ _ ⟨_, _, _, _, _, _, _, _, _, _, _, _, rfl, hk', fun h => g0 (by simpa using h), fun h => g1 (by simpa using h), fun h => g2 (by simpa using h), fun h => g3 (by simpa using h), fun h => g4 (by simpa using h), fun h => g5 (by simpa using h), fun h => g6 (by simpa using h), fun h => g7 (by simpa using h), fun h => g8 (by simpa using h), fun h => g9 (by simpa using h), fun h => g10 (by simpa using h), fun _ _ => ⟨_, rfl, hk.size, own_new _ _⟩, fun h => (fun g => by simp [hla] at h) (g12 (by simpa using h))⟩
  case o1_12 =>
    rintro b ac u hbl hbi hcl he ⟨t6, t21, t22, t23, t24, t25, t26, t27, t28, t29, t30, t31, rfl, hk, g0, g1, g2, g3, g4, g5, g6, g7, g8, g9, g10, g11, g12⟩ K hK
    have hla := hbi
    have p11 : b[11]? = some true := by simp [Region.binds] at he; simp [he]
    have p10 : b[10]? = some true := by simp [Region.binds] at he; simp [he]
    obtain ⟨X, rfl, hXW, hX⟩ := g11 p11 hla
    obtain rfl := g10 p10
    clear he
    have cX := (own_cells hX).1
    have fX := (own_cells hX).2
    go_simp
    exact hK _ _ ⟨_, _, _, _, _, _, _, _, _, _, _, _, rfl, below_setR hk hXW 0 ⟨xt, xv, xr, xw, xk⟩, fun h => g0 (by simpa using h), fun h => g1 (by simpa using h), fun h => g2 (by simpa using h), fun h => g3 (by simpa using h), fun h => g4 (by simpa using h), fun h => g5 (by simpa using h), fun h => g6 (by simpa using h), fun h => g7 (by simpa using h), fun h => g8 (by simpa using h), fun h => g9 (by simpa using h), fun h => g10 (by simpa using h), fun _ h => (by simp [hbl] at h), fun _ => ⟨X, rfl, hXW, own_setR hX 0 ⟨xt, xv, xr, xw, xk⟩⟩⟩
  rintro ac u ⟨t6, t21, t22, t23, t24, t25, t26, t27, t28, t29, t30, t31, rfl, hk, g0, g1, g2, g3, g4, g5, g6, g7, g8, g9, g10, g11, g12⟩
  replace g0 := g0 (by simp)
  replace g1 := g1 (by simp)
  replace g2 := g2 (by simp)
  replace g3 := g3 (by simp)
  replace g4 := g4 (by simp)
  replace g5 := g5 (by simp)
  replace g6 := g6 (by simp)
  replace g7 := g7 (by simp)
  replace g8 := g8 (by simp)
  replace g9 := g9 (by simp)
  replace g10 := g10 (by simp)
  clear g11
  replace g12 := g12 (by simp)
  obtain ⟨X, rfl, hXW, hX⟩ := g12
  replace tt := tt.trans (hk.mono tt.size)
  replace hC := own_below hk hC
  replace hN := own_below hk hN
  replace hZ := hZ.below hk
  clear hk hXW g0 g1 g2 g3 g4 g5 g6 g7 g8 g9 g10 fSl FX
  go_upto_region 7 with fail
  have HKind := hid (fun v u (h : RowI u na zs) => hasKind_any k rd wr rd wr na zs nc v u h)
  rw [← ENZ.out] at HKind
  rcases hfit with hx0 | ⟨i, ti, rfl, hxi, hv⟩
  · have d1 : (xt == 0) = true := by simp [hx0]
    have q : chkRt ts k ((j : Int) + 1) ⟨xt, xv, xr, xw, xk⟩ = -1 := by simp [chkRt, d1]
    have Q := hid q
    clear q hx0
    refine wp_region_quiet_below (by kernel_rfl) (by kernel_rfl) ?_
    iterate 3 ((with_reducible apply qval); (case hw => exact rfl); (case h => (intro v hu; obtain ⟨_, _⟩ := own_cells (own_below hu hX); obtain ⟨_, _⟩ := own_cells (own_below hu hN); go_simp; exact rfl)); (intro K hK; go_simp; (with_reducible refine hK _ ?_); clear hK K))
    refine qval_skips (.bool true) 10 rfl (by kernel_rfl) ?h0 ?hk0
    case h0 => (intro v hu; go_simp)
    intro K hK
    simp only [skipAct, List.drop_succ_cons, List.drop_zero] at hK ⊢
    go_simp
    refine hK _ ?_
    clear hK K
    iterate 1 ((with_reducible apply qval); (case hw => exact rfl); (case h => (intro v hu; obtain ⟨_, _⟩ := own_cells (own_below hu hX); obtain ⟨_, _⟩ := own_cells (own_below hu hN); go_simp; exact rfl)); (intro K hK; go_simp; (with_reducible refine hK _ ?_); clear hK K))
    refine wpQuiet_nil ?_
    intro v hu
    replace tt := tt.trans (hu.mono tt.size)
    clear hX hN hC hZ hu
    go_wp2_with fail
    go_ret
    rw [Q.out]
    exact Exam.no tt
  have him : i < m := by rw [EM.out]; exact (List.getElem?_eq_some_iff.1 hxi).1
  have hwi := wr_small him (show m ≤ 9223372036854775807 by rw [EM.out]; exact HT.out.len)
  have FK := fun v (hv : Below w.heap.size w v) => (show v.cell? ⟨tb, off + i * 8, none⟩ = some (.int .i64 ti.kind) from by
    obtain ⟨b', off', e, _, h⟩ := HT.out.get hxi
    cases e
    exact (h v hv).knd)
  have CSs := hid (fun v (hv : Below w.heap.size w v) => labelSees_at (some ⟨tb, off, none⟩) c ts v (HT.out.below hv) i j (by rw [← EM.out]; exact him) (by rw [← EM.out]; exact hjm))
  have CTt := hid (fun v (hv : Below w.heap.size w v) => labelTouches_at (some ⟨tb, off, none⟩) c ts v (HT.out.below hv) i j (by rw [← EM.out]; exact him) (by rw [← EM.out]; exact hjm))
  have CLv := hid (fun v (hv : Below w.heap.size w v) => rightLive_any (some ⟨tb, off, none⟩) c ts ⟨(i : Int) + 1, xv, xr, xw, xk⟩ v (HT.out.below hv))
  rw [← EM.out] at CSs CTt CLv
  obtain ⟨hk, ehk⟩ : ∃ b, b = zs.any (· == ti.kind) := ⟨_, rfl⟩
  obtain ⟨bad1, eb1⟩ : ∃ b, b = ((rd && !xr) || (wr && !xw)) := ⟨_, rfl⟩
  obtain ⟨se, ese⟩ : ∃ b, b = flowAt ts ((i : Int) + 1) ((j : Int) + 1) := ⟨_, rfl⟩
  obtain ⟨to_, eto⟩ : ∃ b, b = flowAt ts ((j : Int) + 1) ((i : Int) + 1) := ⟨_, rfl⟩
  obtain ⟨lv, elv⟩ : ∃ b, b = liveB ts ⟨(i : Int) + 1, xv, xr, xw, xk⟩ := ⟨_, rfl⟩
  obtain ⟨bad2, eb2⟩ : ∃ b, b = ((rd && !se) || (wr && !to_)) := ⟨_, rfl⟩
  have d1 : ((i : Int) + 1 == 0) = false := by simp; omega
  have q : chkRt ts k ((j : Int) + 1) ⟨(i : Int) + 1, xv, xr, xw, xk⟩ = cond hk (cond bad1 (-1) (cond bad2 (-2) (cond (se && !lv) (-3) 0))) (-1) := by
    unfold chkRt
    dsimp only
    rw [d1, kdAt_of hxi, erd, ewr, ← EZ.out, ← ehk, ← ese, ← eto, ← elv, ← eb1, ← eb2]
    cases hk <;> cases bad1 <;> cases bad2 <;> cases se <;> cases lv <;> rfl
  have Q := hid q
  rw [← ese] at CSs
  rw [← eto] at CTt
  rw [← elv] at CLv
  replace HKind := hid (fun u (h : RowI u na zs) => HKind.out ti.kind u h)
  rw [← ehk] at HKind
  have EB1 := hid eb1
  have EB2 := hid eb2
  clear q ese eto elv ehk eb1 eb2 hxi hv erd ewr CR CP
  refine wp_region_quiet_below (by kernel_rfl) (by kernel_rfl) ?_
  repeat (first
    | ((with_reducible apply qskip); (case hw => exact rfl); (intro K hK; go_simp; (with_reducible refine hK _ ?_); clear hK K))
    | ((with_reducible apply qval); (case hw => exact rfl); (case h => (intro v hu; obtain ⟨_, _⟩ := own_cells (own_below hu hX); obtain ⟨_, _⟩ := own_cells (own_below hu hN); have := FK v (tt.trans (hu.mono tt.size)); go_simp; exact rfl)); (intro K hK; go_simp; (with_reducible refine hK _ ?_); clear hK K))
    | ((with_reducible apply qcall); (case hw => exact rfl); (case h => (intro v hu; go_simp; exact ⟨rfl, rfl⟩)); (case hc => (intro v hu; with_reducible exact Calls.in_below hu (HKind.out _ (hZ.below hu)))); (intro K hK; go_simp; (with_reducible refine hK _ ?_); clear hK K)))
  refine wpQuiet_nil ?_
  intro v hu
  replace tt := tt.trans (hu.mono tt.size)
  replace hC := own_below hu hC
  replace hX := own_below hu hX
  replace hN := own_below hu hN
  clear hZ hu FK HKind
  cases hk
  · go_wp2_with fail
    go_ret
    rw [Q.out]
    exact Exam.no tt
  obtain ⟨cN, fN⟩ := own_cells hN
  obtain ⟨cX, fX⟩ := own_cells hX
  obtain ⟨cC, fC⟩ := own_cells hC
  go_upto_region 9 with fail
  go_cut [65] from 50 to 65 (fun c wx => c = .bool bad1 ∧ wx = v)
  case first =>
    have eb1 := EB1.out
    clear EB1 EB2
    subst eb1
    cases rd <;> cases xr <;> cases wr <;> cases xw <;>
    (go_wp2_with fail
     go_meet
     exact ⟨rfl, rfl⟩)
  case rest =>
  obtain ⟨rfl, rfl⟩ := hcut
  cases bad1
  case true =>
    go_wp2_with fail
    go_ret
    rw [Q.out]
    exact Exam.no tt
  case false =>
  go_wp2_with fail
  refine (CSs.out _ tt).mono ?_
  rintro e w3 ⟨rfl, hb⟩
  (try clear cN fN); (try clear cX fX); (try clear cC fC)
  replace tt := tt.trans (hb.mono tt.size)
  replace hC := own_below hb hC
  replace hX := own_below hb hX
  replace hN := own_below hb hN
  clear hb
  obtain ⟨cN, fN⟩ := own_cells hN
  obtain ⟨cX, fX⟩ := own_cells hX
  obtain ⟨cC, fC⟩ := own_cells hC
  go_upto_region 12 with fail
  go_cut [93] from 75 to 93 (fun c wx => c = .bool bad2 ∧ Below w3.heap.size w3 wx)
  case first =>
    have eb2 := EB2.out
    clear EB1 EB2
    subst eb2
    cases rd <;> cases se <;> cases wr <;>
    (go_wp2_with fail
     first
     | (go_meet
        exact ⟨rfl, Below.refl _ _⟩)
     | (refine (CTt.out _ tt).mono ?_
        rintro e w4 ⟨rfl, hb⟩
        cases to_ <;>
        (go_wp2_with fail
         go_meet
         exact ⟨rfl, hb⟩)))
  case rest =>
  obtain ⟨rfl, hb⟩ := hcut
  (try clear cN fN); (try clear cX fX); (try clear cC fC)
  replace tt := tt.trans (hb.mono tt.size)
  replace hX := own_below hb hX
  clear hb hC hN
  cases bad2
  case true =>
    go_wp2_with fail
    go_ret
    rw [Q.out]
    exact Exam.no tt
  case false =>
  obtain ⟨cX, fX⟩ := own_cells hX
  cases se
  · go_wp2_with fail
    go_ret
    rw [Q.out]
    exact Exam.yes tt
  · go_wp2_with fail
    refine (CLv.out _ tt).mono ?_
    rintro e w5 ⟨rfl, hb⟩
    (try clear cX fX)
    replace tt := tt.trans (hb.mono tt.size)
    clear hb
    cases lv
    · go_wp2_with fail
      go_ret
      rw [Q.out]
      exact Exam.no tt
    · go_wp2_with fail
      go_ret
      rw [Q.out]
      exact Exam.yes tt
end Go.Proofs.YtcgmnpppdoadhaaDoor
