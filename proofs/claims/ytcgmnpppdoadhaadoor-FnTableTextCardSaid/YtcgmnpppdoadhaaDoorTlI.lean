/- The contract of the program's thingLine. It asks that strconv's table lies in its variable, and that the thing is one. -/
import Derived.Test.YtcgmnpppdoadhaaDoorTlW
namespace Go.Proofs.YtcgmnpppdoadhaaDoor
set_option maxRecDepth 100000
open Go Go.RowKit
set_option linter.unusedVariables false
set_option linter.unusedSimpArgs false

set_option maxHeartbeats 4000000 in
set_option maxRecDepth 100000 in
theorem thingLine_any (i : Nat) (t : Th) (sa qa : Option Addr) (sc qc : Nat) (w : World) (hi : i < 100) (hok : t.ok = true) (hR : RowR w sa t.slots) (hQ : RowI w qa t.queue) (ht : Tab w) :
    Calls Tryd.prog 66 #[.int .i64 (i : Int), .agg #[.int .i64 t.kind, .int .i64 t.sec, .int .i64 t.vou, .int .i64 t.vers, .int .i64 t.num, .slice sa t.slots.length sc, .slice qa t.queue.length qc, .int .i64 t.tg]] w fun e w' => e = .returned (.string (txt (lineT i t))) ∧ Below w.heap.size w w' := by
  obtain ⟨k1, k2, hlb, v1, v2, n1, n2, hq, hs, g1, g2⟩ := ok_bds hok
  obtain ⟨hs4, hq3⟩ := ok_lens hok
  obtain ⟨ws, ews⟩ : ∃ ws, ws = [dec i, kn t.kind] ++ thWs t := ⟨_, rfl⟩
  obtain ⟨ws0, ews0⟩ : ∃ ws0, ws0 = [dec i, kn t.kind, lblTxt t.sec t.vou, decI t.vers, decI t.num] := ⟨_, rfl⟩
  have hlin : txt (lineT i t) = (⟨(Lib.join ws [32]).toArray⟩ : ByteArray) ++ ⟨#[10]⟩ := by
    rw [ews]
    show _ = txt (Lib.join (dec i :: kn t.kind :: thWs t) [32]) ++ txt [10]
    rw [txt_append, Lib.join_cons, jt_cons]
    simp [lineT, l3Th]
  have hjl : (Lib.join ws [32]).length ≤ 200 := by
    rw [ews]
    show (Lib.join (dec i :: kn t.kind :: thWs t) [32]).length ≤ _
    rw [Lib.join_cons, jt_cons]
    have a := jt_le (thWs t) (thWs_len t)
    have b := thWs_count hs4 hq3
    have c := kn_len t.kind
    have d := dec_len i
    simp; omega
  have hwl : ws = ws0 ++ t.slots.map rtTxt ++ t.queue.map quW ++ gateW t := by rw [ews, ews0]; simp [thWs]
  have hw0 : strs ws0 = [.string (txt (dec i)), .string (txt (kn t.kind)), .string (txt (lblTxt t.sec t.vou)), .string (txt (decI t.vers)), .string (txt (decI t.num))] := by rw [ews0]; rfl
  have hl0 : ws0.length = 5 := by rw [ews0]; rfl
  have hgW : gateW t = if t.kind = 5 then [62 :: decI t.tg] else [] := rfl
  have HLIN := hid hlin
  have HJL := hid hjl
  have HWL := hid hwl
  have HW0 := hid hw0
  have HGW := hid hgW
  have HL0 := hid hl0
  clear ews ews0 hlin hjl hwl hw0 hgW hl0 hok
  have H0 := hid (fun u (hu : Tab u) => itoaI_any (i : Int) (by omega) (by omega) u hu)
  rw [decI_nat] at H0
  have H1 := hid (fun u => kindName_any t.kind u)
  have H2 := hid (fun u => labelText_any t.sec t.vou u)
  have H3 := hid (fun u (hu : Tab u) => itoaI_any t.vers (by omega) (by omega) u hu)
  have H4 := hid (fun u (hu : Tab u) => itoaI_any t.num (by omega) (by omega) u hu)
  have HT := hid ht
  generalize txt (dec i) = D0 at H0 HW0
  generalize txt (kn t.kind) = D1 at H1 HW0
  generalize txt (lblTxt t.sec t.vou) = D2 at H2 HW0
  generalize txt (decI t.vers) = D3 at H3 HW0
  generalize txt (decI t.num) = D4 at H4 HW0
  have hA := own_new w (.cells #[.int .i64 t.kind, .int .i64 t.sec, .int .i64 t.vou, .int .i64 t.vers, .int .i64 t.num, .slice sa t.slots.length sc, .slice qa t.queue.length qc, .int .i64 t.tg] 36)
  have tt : Below w.heap.size w (w.alloc (.cells #[.int .i64 t.kind, .int .i64 t.sec, .int .i64 t.vou, .int .i64 t.vers, .int .i64 t.num, .slice sa t.slots.length sc, .slice qa t.queue.length qc, .int .i64 t.tg] 36)) := (Below.refl _ _).alloc (Nat.le_refl _) _
  obtain ⟨n, en⟩ : ∃ n, n = t.slots.length := ⟨_, rfl⟩
  obtain ⟨m, em⟩ : ∃ m, m = t.queue.length := ⟨_, rfl⟩
  rw [← en, ← em] at hA tt ⊢
  rw [← en] at hs4
  rw [← em] at hq3
  have EN := hid en
  have EM := hid em
  have HR := hid hR
  have HQ := hid hQ
  have HQB := hid hq
  clear en em hR hQ hq hs ht
  generalize ek : t.kind = k at *
  generalize t.sec = s at *
  generalize t.vou = v at *
  generalize t.vers = ve at *
  generalize t.num = nu at *
  generalize etg : t.tg = tg at *
  go_enter Tryd.func66, Tryd.ntmps66
  go_upto_region 1 with fail
  refine named (p := fun W => Code.wp _ _ _ _ W) _ ?_
  intro W hW
  replace hA := own_eq hW hA
  rw [hW] at tt
  clear hW
  refine wp_region_each (by kernel_rfl) (by kernel_rfl) (by kernel_rfl) (fun b ac u => ∃ t5 t10 t11 t12 t13 t14 t15 t16 t17 t18 t19 t20 t21 t22 t23 t24 : Value, ac = ⟨#[.int .i64 (i : Int), .agg #[.int .i64 k, .int .i64 s, .int .i64 v, .int .i64 ve, .int .i64 nu, .slice sa n sc, .slice qa m qc, .int .i64 tg], undef, .pointer (some ⟨w.heap.size, 0, none⟩), .string ⟨#[]⟩, t5, undef, undef, undef, undef, t10, t11, t12, t13, t14, t15, t16, t17, t18, t19, t20, t21, t22, t23, t24, undef, undef, undef, undef, undef, undef, undef, undef, undef, undef, undef, undef, undef, undef, undef, undef, undef, undef, undef, undef, undef, undef, undef, undef, undef, undef, undef, undef, undef, undef, undef, undef, undef, undef, undef, undef, undef, undef, undef, undef], []⟩ ∧ (Below W.heap.size W u) ∧ (b[0]? = some true → t10 = .int .i64 (i : Int)) ∧ (b[1]? = some true → t11 = .string D0) ∧ (b[2]? = some true → t12 = .pointer (some ⟨w.heap.size, 0, none⟩)) ∧ (b[3]? = some true → t13 = .int .i64 k) ∧ (b[4]? = some true → t14 = .string D1) ∧ (b[5]? = some true → t15 = .pointer (some ⟨w.heap.size, 1, none⟩)) ∧ (b[6]? = some true → t16 = .agg #[.int .i64 s, .int .i64 v]) ∧ (b[7]? = some true → t17 = .string D2) ∧ (b[8]? = some true → t18 = .pointer (some ⟨w.heap.size, 3, none⟩)) ∧ (b[9]? = some true → t19 = .int .i64 ve) ∧ (b[10]? = some true → t20 = .string D3) ∧ (b[11]? = some true → t21 = .pointer (some ⟨w.heap.size, 4, none⟩)) ∧ (b[12]? = some true → t22 = .int .i64 nu) ∧ (b[13]? = some true → t23 = .string D4) ∧ (b[14]? = some true → ∃ B : Nat, t24 = .slice (some ⟨B, 0, none⟩) 5 5 ∧ W.heap.size ≤ B ∧ u.heap[B]? = some (.cells #[.string D0, .string D1, .string D2, .string D3, .string D4] 9 (0, 0))) ∧ (b[15]? = some true → ∃ B : Nat, t5 = .slice (some ⟨B, 0, none⟩) 5 5 ∧ W.heap.size ≤ B ∧ u.heap[B]? = some (.cells #[.string D0, .string D1, .string D2, .string D3, .string D4] 9 (0, 0)))) ?h0_1 ⟨?o1_0, ?o1_1, ?o1_2, ?o1_3, ?o1_4, ?o1_5, ?o1_6, ?o1_7, ?o1_8, ?o1_9, ?o1_10, ?o1_11, ?o1_12, ?o1_13, ?o1_14, ?o1_15, trivial⟩ ?hend_1
  case h0_1 => exact ⟨undef, undef, undef, undef, undef, undef, undef, undef, undef, undef, undef, undef, undef, undef, undef, undef, rfl, (Below.refl _ _).drew, by simp, by simp, by simp, by simp, by simp, by simp, by simp, by simp, by simp, by simp, by simp, by simp, by simp, by simp, by simp, by simp⟩
  case o1_0 =>
    rintro b ac u hbl hbi hcl he ⟨t5, t10, t11, t12, t13, t14, t15, t16, t17, t18, t19, t20, t21, t22, t23, t24, rfl, hk, g0, g1, g2, g3, g4, g5, g6, g7, g8, g9, g10, g11, g12, g13, g14, g15⟩ K hK
    clear he
    go_simp
    have hR := Below.refl u.heap.size u
    exact hK _ _ ⟨_, _, _, _, _, _, _, _, _, _, _, _, _, _, _, _, rfl, hk.trans (hR.mono hk.size), fun _ => rfl, fun h => g1 (by simpa using h), fun h => g2 (by simpa using h), fun h => g3 (by simpa using h), fun h => g4 (by simpa using h), fun h => g5 (by simpa using h), fun h => g6 (by simpa using h), fun h => g7 (by simpa using h), fun h => g8 (by simpa using h), fun h => g9 (by simpa using h), fun h => g10 (by simpa using h), fun h => g11 (by simpa using h), fun h => g12 (by simpa using h), fun h => g13 (by simpa using h), fun h => (fun g => (by obtain ⟨B, e, h1, h2⟩ := g; exact ⟨B, e, h1, own_below hR h2⟩)) (g14 (by simpa using h)), fun h => (fun g => (by obtain ⟨B, e, h1, h2⟩ := g; exact ⟨B, e, h1, own_below hR h2⟩)) (g15 (by simpa using h))⟩
  case o1_1 =>
    rintro b ac u hbl hbi hcl he ⟨t5, t10, t11, t12, t13, t14, t15, t16, t17, t18, t19, t20, t21, t22, t23, t24, rfl, hk, g0, g1, g2, g3, g4, g5, g6, g7, g8, g9, g10, g11, g12, g13, g14, g15⟩ K hK
    have p0 : b[0]? = some true := by simp [Region.binds] at he; simp [he]
    obtain rfl := g0 p0
    clear he
    go_simp
    refine (H0.out _ (HT.out.below (tt.trans (hk.mono tt.size)))).mono ?_
    rintro e u' ⟨rfl, hR⟩
    go_simp
    exact hK _ _ ⟨_, _, _, _, _, _, _, _, _, _, _, _, _, _, _, _, rfl, hk.trans (hR.mono hk.size), fun h => g0 (by simpa using h), fun _ => rfl, fun h => g2 (by simpa using h), fun h => g3 (by simpa using h), fun h => g4 (by simpa using h), fun h => g5 (by simpa using h), fun h => g6 (by simpa using h), fun h => g7 (by simpa using h), fun h => g8 (by simpa using h), fun h => g9 (by simpa using h), fun h => g10 (by simpa using h), fun h => g11 (by simpa using h), fun h => g12 (by simpa using h), fun h => g13 (by simpa using h), fun h => (fun g => (by obtain ⟨B, e, h1, h2⟩ := g; exact ⟨B, e, h1, own_below hR h2⟩)) (g14 (by simpa using h)), fun h => (fun g => (by obtain ⟨B, e, h1, h2⟩ := g; exact ⟨B, e, h1, own_below hR h2⟩)) (g15 (by simpa using h))⟩
  case o1_2 =>
    rintro b ac u hbl hbi hcl he ⟨t5, t10, t11, t12, t13, t14, t15, t16, t17, t18, t19, t20, t21, t22, t23, t24, rfl, hk, g0, g1, g2, g3, g4, g5, g6, g7, g8, g9, g10, g11, g12, g13, g14, g15⟩ K hK
    clear he
    go_simp
    have hR := Below.refl u.heap.size u
    exact hK _ _ ⟨_, _, _, _, _, _, _, _, _, _, _, _, _, _, _, _, rfl, hk.trans (hR.mono hk.size), fun h => g0 (by simpa using h), fun h => g1 (by simpa using h), fun _ => rfl, fun h => g3 (by simpa using h), fun h => g4 (by simpa using h), fun h => g5 (by simpa using h), fun h => g6 (by simpa using h), fun h => g7 (by simpa using h), fun h => g8 (by simpa using h), fun h => g9 (by simpa using h), fun h => g10 (by simpa using h), fun h => g11 (by simpa using h), fun h => g12 (by simpa using h), fun h => g13 (by simpa using h), fun h => (fun g => (by obtain ⟨B, e, h1, h2⟩ := g; exact ⟨B, e, h1, own_below hR h2⟩)) (g14 (by simpa using h)), fun h => (fun g => (by obtain ⟨B, e, h1, h2⟩ := g; exact ⟨B, e, h1, own_below hR h2⟩)) (g15 (by simpa using h))⟩
  case o1_3 =>
    rintro b ac u hbl hbi hcl he ⟨t5, t10, t11, t12, t13, t14, t15, t16, t17, t18, t19, t20, t21, t22, t23, t24, rfl, hk, g0, g1, g2, g3, g4, g5, g6, g7, g8, g9, g10, g11, g12, g13, g14, g15⟩ K hK
    have p2 : b[2]? = some true := by simp [Region.binds] at he; simp [he]
    obtain rfl := g2 p2
    clear he
    have cT := (own_cells (own_below hk hA)).1
    have fT := (own_cells (own_below hk hA)).2
    go_simp
    have hR := Below.refl u.heap.size u
    exact hK _ _ ⟨_, _, _, _, _, _, _, _, _, _, _, _, _, _, _, _, rfl, hk.trans (hR.mono hk.size), fun h => g0 (by simpa using h), fun h => g1 (by simpa using h), fun h => g2 (by simpa using h), fun _ => rfl, fun h => g4 (by simpa using h), fun h => g5 (by simpa using h), fun h => g6 (by simpa using h), fun h => g7 (by simpa using h), fun h => g8 (by simpa using h), fun h => g9 (by simpa using h), fun h => g10 (by simpa using h), fun h => g11 (by simpa using h), fun h => g12 (by simpa using h), fun h => g13 (by simpa using h), fun h => (fun g => (by obtain ⟨B, e, h1, h2⟩ := g; exact ⟨B, e, h1, own_below hR h2⟩)) (g14 (by simpa using h)), fun h => (fun g => (by obtain ⟨B, e, h1, h2⟩ := g; exact ⟨B, e, h1, own_below hR h2⟩)) (g15 (by simpa using h))⟩
  case o1_4 =>
    rintro b ac u hbl hbi hcl he ⟨t5, t10, t11, t12, t13, t14, t15, t16, t17, t18, t19, t20, t21, t22, t23, t24, rfl, hk, g0, g1, g2, g3, g4, g5, g6, g7, g8, g9, g10, g11, g12, g13, g14, g15⟩ K hK
    have p3 : b[3]? = some true := by simp [Region.binds] at he; simp [he]
    obtain rfl := g3 p3
    clear he
    go_simp
    refine (H1.out _).mono ?_
    rintro e u' ⟨rfl, rfl⟩
    have hR := Below.refl u.heap.size u
    go_simp
    exact hK _ _ ⟨_, _, _, _, _, _, _, _, _, _, _, _, _, _, _, _, rfl, hk.trans (hR.mono hk.size), fun h => g0 (by simpa using h), fun h => g1 (by simpa using h), fun h => g2 (by simpa using h), fun h => g3 (by simpa using h), fun _ => rfl, fun h => g5 (by simpa using h), fun h => g6 (by simpa using h), fun h => g7 (by simpa using h), fun h => g8 (by simpa using h), fun h => g9 (by simpa using h), fun h => g10 (by simpa using h), fun h => g11 (by simpa using h), fun h => g12 (by simpa using h), fun h => g13 (by simpa using h), fun h => (fun g => (by obtain ⟨B, e, h1, h2⟩ := g; exact ⟨B, e, h1, own_below hR h2⟩)) (g14 (by simpa using h)), fun h => (fun g => (by obtain ⟨B, e, h1, h2⟩ := g; exact ⟨B, e, h1, own_below hR h2⟩)) (g15 (by simpa using h))⟩
  case o1_5 =>
    rintro b ac u hbl hbi hcl he ⟨t5, t10, t11, t12, t13, t14, t15, t16, t17, t18, t19, t20, t21, t22, t23, t24, rfl, hk, g0, g1, g2, g3, g4, g5, g6, g7, g8, g9, g10, g11, g12, g13, g14, g15⟩ K hK
    clear he
    go_simp
    have hR := Below.refl u.heap.size u
    exact hK _ _ ⟨_, _, _, _, _, _, _, _, _, _, _, _, _, _, _, _, rfl, hk.trans (hR.mono hk.size), fun h => g0 (by simpa using h), fun h => g1 (by simpa using h), fun h => g2 (by simpa using h), fun h => g3 (by simpa using h), fun h => g4 (by simpa using h), fun _ => rfl, fun h => g6 (by simpa using h), fun h => g7 (by simpa using h), fun h => g8 (by simpa using h), fun h => g9 (by simpa using h), fun h => g10 (by simpa using h), fun h => g11 (by simpa using h), fun h => g12 (by simpa using h), fun h => g13 (by simpa using h), fun h => (fun g => (by obtain ⟨B, e, h1, h2⟩ := g; exact ⟨B, e, h1, own_below hR h2⟩)) (g14 (by simpa using h)), fun h => (fun g => (by obtain ⟨B, e, h1, h2⟩ := g; exact ⟨B, e, h1, own_below hR h2⟩)) (g15 (by simpa using h))⟩
  case o1_6 =>
    rintro b ac u hbl hbi hcl he ⟨t5, t10, t11, t12, t13, t14, t15, t16, t17, t18, t19, t20, t21, t22, t23, t24, rfl, hk, g0, g1, g2, g3, g4, g5, g6, g7, g8, g9, g10, g11, g12, g13, g14, g15⟩ K hK
    have p5 : b[5]? = some true := by simp [Region.binds] at he; simp [he]
    obtain rfl := g5 p5
    clear he
    have cT := (own_cells (own_below hk hA)).1
    have fT := (own_cells (own_below hk hA)).2
    go_simp
    have hR := Below.refl u.heap.size u
    exact hK _ _ ⟨_, _, _, _, _, _, _, _, _, _, _, _, _, _, _, _, rfl, hk.trans (hR.mono hk.size), fun h => g0 (by simpa using h), fun h => g1 (by simpa using h), fun h => g2 (by simpa using h), fun h => g3 (by simpa using h), fun h => g4 (by simpa using h), fun h => g5 (by simpa using h), fun _ => rfl, fun h => g7 (by simpa using h), fun h => g8 (by simpa using h), fun h => g9 (by simpa using h), fun h => g10 (by simpa using h), fun h => g11 (by simpa using h), fun h => g12 (by simpa using h), fun h => g13 (by simpa using h), fun h => (fun g => (by obtain ⟨B, e, h1, h2⟩ := g; exact ⟨B, e, h1, own_below hR h2⟩)) (g14 (by simpa using h)), fun h => (fun g => (by obtain ⟨B, e, h1, h2⟩ := g; exact ⟨B, e, h1, own_below hR h2⟩)) (g15 (by simpa using h))⟩
  case o1_7 =>
    rintro b ac u hbl hbi hcl he ⟨t5, t10, t11, t12, t13, t14, t15, t16, t17, t18, t19, t20, t21, t22, t23, t24, rfl, hk, g0, g1, g2, g3, g4, g5, g6, g7, g8, g9, g10, g11, g12, g13, g14, g15⟩ K hK
    have p6 : b[6]? = some true := by simp [Region.binds] at he; simp [he]
    obtain rfl := g6 p6
    clear he
    go_simp
    refine (H2.out _).mono ?_
    rintro e u' ⟨rfl, hR⟩
    go_simp
    exact hK _ _ ⟨_, _, _, _, _, _, _, _, _, _, _, _, _, _, _, _, rfl, hk.trans (hR.mono hk.size), fun h => g0 (by simpa using h), fun h => g1 (by simpa using h), fun h => g2 (by simpa using h), fun h => g3 (by simpa using h), fun h => g4 (by simpa using h), fun h => g5 (by simpa using h), fun h => g6 (by simpa using h), fun _ => rfl, fun h => g8 (by simpa using h), fun h => g9 (by simpa using h), fun h => g10 (by simpa using h), fun h => g11 (by simpa using h), fun h => g12 (by simpa using h), fun h => g13 (by simpa using h), fun h => (fun g => (by obtain ⟨B, e, h1, h2⟩ := g; exact ⟨B, e, h1, own_below hR h2⟩)) (g14 (by simpa using h)), fun h => (fun g => (by obtain ⟨B, e, h1, h2⟩ := g; exact ⟨B, e, h1, own_below hR h2⟩)) (g15 (by simpa using h))⟩
  case o1_8 =>
    rintro b ac u hbl hbi hcl he ⟨t5, t10, t11, t12, t13, t14, t15, t16, t17, t18, t19, t20, t21, t22, t23, t24, rfl, hk, g0, g1, g2, g3, g4, g5, g6, g7, g8, g9, g10, g11, g12, g13, g14, g15⟩ K hK
    clear he
    go_simp
    have hR := Below.refl u.heap.size u
    exact hK _ _ ⟨_, _, _, _, _, _, _, _, _, _, _, _, _, _, _, _, rfl, hk.trans (hR.mono hk.size), fun h => g0 (by simpa using h), fun h => g1 (by simpa using h), fun h => g2 (by simpa using h), fun h => g3 (by simpa using h), fun h => g4 (by simpa using h), fun h => g5 (by simpa using h), fun h => g6 (by simpa using h), fun h => g7 (by simpa using h), fun _ => rfl, fun h => g9 (by simpa using h), fun h => g10 (by simpa using h), fun h => g11 (by simpa using h), fun h => g12 (by simpa using h), fun h => g13 (by simpa using h), fun h => (fun g => (by obtain ⟨B, e, h1, h2⟩ := g; exact ⟨B, e, h1, own_below hR h2⟩)) (g14 (by simpa using h)), fun h => (fun g => (by obtain ⟨B, e, h1, h2⟩ := g; exact ⟨B, e, h1, own_below hR h2⟩)) (g15 (by simpa using h))⟩
  case o1_9 =>
    rintro b ac u hbl hbi hcl he ⟨t5, t10, t11, t12, t13, t14, t15, t16, t17, t18, t19, t20, t21, t22, t23, t24, rfl, hk, g0, g1, g2, g3, g4, g5, g6, g7, g8, g9, g10, g11, g12, g13, g14, g15⟩ K hK
    have p8 : b[8]? = some true := by simp [Region.binds] at he; simp [he]
    obtain rfl := g8 p8
    clear he
    have cT := (own_cells (own_below hk hA)).1
    have fT := (own_cells (own_below hk hA)).2
    go_simp
    have hR := Below.refl u.heap.size u
    exact hK _ _ ⟨_, _, _, _, _, _, _, _, _, _, _, _, _, _, _, _, rfl, hk.trans (hR.mono hk.size), fun h => g0 (by simpa using h), fun h => g1 (by simpa using h), fun h => g2 (by simpa using h), fun h => g3 (by simpa using h), fun h => g4 (by simpa using h), fun h => g5 (by simpa using h), fun h => g6 (by simpa using h), fun h => g7 (by simpa using h), fun h => g8 (by simpa using h), fun _ => rfl, fun h => g10 (by simpa using h), fun h => g11 (by simpa using h), fun h => g12 (by simpa using h), fun h => g13 (by simpa using h), fun h => (fun g => (by obtain ⟨B, e, h1, h2⟩ := g; exact ⟨B, e, h1, own_below hR h2⟩)) (g14 (by simpa using h)), fun h => (fun g => (by obtain ⟨B, e, h1, h2⟩ := g; exact ⟨B, e, h1, own_below hR h2⟩)) (g15 (by simpa using h))⟩
  case o1_10 =>
    rintro b ac u hbl hbi hcl he ⟨t5, t10, t11, t12, t13, t14, t15, t16, t17, t18, t19, t20, t21, t22, t23, t24, rfl, hk, g0, g1, g2, g3, g4, g5, g6, g7, g8, g9, g10, g11, g12, g13, g14, g15⟩ K hK
    have p9 : b[9]? = some true := by simp [Region.binds] at he; simp [he]
    obtain rfl := g9 p9
    clear he
    go_simp
    refine (H3.out _ (HT.out.below (tt.trans (hk.mono tt.size)))).mono ?_
    rintro e u' ⟨rfl, hR⟩
    go_simp
    exact hK _ _ ⟨_, _, _, _, _, _, _, _, _, _, _, _, _, _, _, _, rfl, hk.trans (hR.mono hk.size), fun h => g0 (by simpa using h), fun h => g1 (by simpa using h), fun h => g2 (by simpa using h), fun h => g3 (by simpa using h), fun h => g4 (by simpa using h), fun h => g5 (by simpa using h), fun h => g6 (by simpa using h), fun h => g7 (by simpa using h), fun h => g8 (by simpa using h), fun h => g9 (by simpa using h), fun _ => rfl, fun h => g11 (by simpa using h), fun h => g12 (by simpa using h), fun h => g13 (by simpa using h), fun h => (fun g => (by obtain ⟨B, e, h1, h2⟩ := g; exact ⟨B, e, h1, own_below hR h2⟩)) (g14 (by simpa using h)), fun h => (fun g => (by obtain ⟨B, e, h1, h2⟩ := g; exact ⟨B, e, h1, own_below hR h2⟩)) (g15 (by simpa using h))⟩
  case o1_11 =>
    rintro b ac u hbl hbi hcl he ⟨t5, t10, t11, t12, t13, t14, t15, t16, t17, t18, t19, t20, t21, t22, t23, t24, rfl, hk, g0, g1, g2, g3, g4, g5, g6, g7, g8, g9, g10, g11, g12, g13, g14, g15⟩ K hK
    clear he
    go_simp
    have hR := Below.refl u.heap.size u
    exact hK _ _ ⟨_, _, _, _, _, _, _, _, _, _, _, _, _, _, _, _, rfl, hk.trans (hR.mono hk.size), fun h => g0 (by simpa using h), fun h => g1 (by simpa using h), fun h => g2 (by simpa using h), fun h => g3 (by simpa using h), fun h => g4 (by simpa using h), fun h => g5 (by simpa using h), fun h => g6 (by simpa using h), fun h => g7 (by simpa using h), fun h => g8 (by simpa using h), fun h => g9 (by simpa using h), fun h => g10 (by simpa using h), fun _ => rfl, fun h => g12 (by simpa using h), fun h => g13 (by simpa using h), fun h => (fun g => (by obtain ⟨B, e, h1, h2⟩ := g; exact ⟨B, e, h1, own_below hR h2⟩)) (g14 (by simpa using h)), fun h => (fun g => (by obtain ⟨B, e, h1, h2⟩ := g; exact ⟨B, e, h1, own_below hR h2⟩)) (g15 (by simpa using h))⟩
  case o1_12 =>
    rintro b ac u hbl hbi hcl he ⟨t5, t10, t11, t12, t13, t14, t15, t16, t17, t18, t19, t20, t21, t22, t23, t24, rfl, hk, g0, g1, g2, g3, g4, g5, g6, g7, g8, g9, g10, g11, g12, g13, g14, g15⟩ K hK
    have p11 : b[11]? = some true := by simp [Region.binds] at he; simp [he]
    obtain rfl := g11 p11
    clear he
    have cT := (own_cells (own_below hk hA)).1
    have fT := (own_cells (own_below hk hA)).2
    go_simp
    have hR := Below.refl u.heap.size u
    exact hK _ _ ⟨_, _, _, _, _, _, _, _, _, _, _, _, _, _, _, _, rfl, hk.trans (hR.mono hk.size), fun h => g0 (by simpa using h), fun h => g1 (by simpa using h), fun h => g2 (by simpa using h), fun h => g3 (by simpa using h), fun h => g4 (by simpa using h), fun h => g5 (by simpa using h), fun h => g6 (by simpa using h), fun h => g7 (by simpa using h), fun h => g8 (by simpa using h), fun h => g9 (by simpa using h), fun h => g10 (by simpa using h), fun h => g11 (by simpa using h), fun _ => rfl, fun h => g13 (by simpa using h), fun h => (fun g => (by obtain ⟨B, e, h1, h2⟩ := g; exact ⟨B, e, h1, own_below hR h2⟩)) (g14 (by simpa using h)), fun h => (fun g => (by obtain ⟨B, e, h1, h2⟩ := g; exact ⟨B, e, h1, own_below hR h2⟩)) (g15 (by simpa using h))⟩
  case o1_13 =>
    rintro b ac u hbl hbi hcl he ⟨t5, t10, t11, t12, t13, t14, t15, t16, t17, t18, t19, t20, t21, t22, t23, t24, rfl, hk, g0, g1, g2, g3, g4, g5, g6, g7, g8, g9, g10, g11, g12, g13, g14, g15⟩ K hK
    have p12 : b[12]? = some true := by simp [Region.binds] at he; simp [he]
    obtain rfl := g12 p12
    clear he
    go_simp
    refine (H4.out _ (HT.out.below (tt.trans (hk.mono tt.size)))).mono ?_
    rintro e u' ⟨rfl, hR⟩
    go_simp
    exact hK _ _ ⟨_, _, _, _, _, _, _, _, _, _, _, _, _, _, _, _, rfl, hk.trans (hR.mono hk.size), fun h => g0 (by simpa using h), fun h => g1 (by simpa using h), fun h => g2 (by simpa using h), fun h => g3 (by simpa using h), fun h => g4 (by simpa using h), fun h => g5 (by simpa using h), fun h => g6 (by simpa using h), fun h => g7 (by simpa using h), fun h => g8 (by simpa using h), fun h => g9 (by simpa using h), fun h => g10 (by simpa using h), fun h => g11 (by simpa using h), fun h => g12 (by simpa using h), fun _ => rfl, fun h => (fun g => (by obtain ⟨B, e, h1, h2⟩ := g; exact ⟨B, e, h1, own_below hR h2⟩)) (g14 (by simpa using h)), fun h => (fun g => (by obtain ⟨B, e, h1, h2⟩ := g; exact ⟨B, e, h1, own_below hR h2⟩)) (g15 (by simpa using h))⟩
  case o1_14 =>
    rintro b ac u hbl hbi hcl he ⟨t5, t10, t11, t12, t13, t14, t15, t16, t17, t18, t19, t20, t21, t22, t23, t24, rfl, hk, g0, g1, g2, g3, g4, g5, g6, g7, g8, g9, g10, g11, g12, g13, g14, g15⟩ K hK
    have p1 : b[1]? = some true := by simp [Region.binds] at he; simp [he]
    have p4 : b[4]? = some true := by simp [Region.binds] at he; simp [he]
    have p7 : b[7]? = some true := by simp [Region.binds] at he; simp [he]
    have p10 : b[10]? = some true := by simp [Region.binds] at he; simp [he]
    have p13 : b[13]? = some true := by simp [Region.binds] at he; simp [he]
    obtain rfl := g1 p1
    obtain rfl := g4 p4
    obtain rfl := g7 p7
    obtain rfl := g10 p10
    obtain rfl := g13 p13
    clear he
    go_simp
    have hR := (Below.refl u.heap.size u).alloc (Nat.le_refl _) (.cells #[.string D0, .string D1, .string D2, .string D3, .string D4] 9)
    exact hK _ _ ⟨_, _, _, _, _, _, _, _, _, _, _, _, _, _, _, _, rfl, hk.trans (hR.mono hk.size), fun h => g0 (by simpa using h), fun h => g1 (by simpa using h), fun h => g2 (by simpa using h), fun h => g3 (by simpa using h), fun h => g4 (by simpa using h), fun h => g5 (by simpa using h), fun h => g6 (by simpa using h), fun h => g7 (by simpa using h), fun h => g8 (by simpa using h), fun h => g9 (by simpa using h), fun h => g10 (by simpa using h), fun h => g11 (by simpa using h), fun h => g12 (by simpa using h), fun h => g13 (by simpa using h), fun _ => ⟨_, rfl, hk.size, own_new _ _⟩, fun h => (fun g => (by obtain ⟨B, e, h1, h2⟩ := g; exact ⟨B, e, h1, own_below hR h2⟩)) (g15 (by simpa using h))⟩
  case o1_15 =>
    rintro b ac u hbl hbi hcl he ⟨t5, t10, t11, t12, t13, t14, t15, t16, t17, t18, t19, t20, t21, t22, t23, t24, rfl, hk, g0, g1, g2, g3, g4, g5, g6, g7, g8, g9, g10, g11, g12, g13, g14, g15⟩ K hK
    have p14 : b[14]? = some true := by simp [Region.binds] at he; simp [he]
    obtain ⟨B, rfl, hBW, hB⟩ := g14 p14
    clear he
    go_simp
    have hR := Below.refl u.heap.size u
    exact hK _ _ ⟨_, _, _, _, _, _, _, _, _, _, _, _, _, _, _, _, rfl, hk.trans (hR.mono hk.size), fun h => g0 (by simpa using h), fun h => g1 (by simpa using h), fun h => g2 (by simpa using h), fun h => g3 (by simpa using h), fun h => g4 (by simpa using h), fun h => g5 (by simpa using h), fun h => g6 (by simpa using h), fun h => g7 (by simpa using h), fun h => g8 (by simpa using h), fun h => g9 (by simpa using h), fun h => g10 (by simpa using h), fun h => g11 (by simpa using h), fun h => g12 (by simpa using h), fun h => g13 (by simpa using h), fun h => (fun g => (by obtain ⟨B, e, h1, h2⟩ := g; exact ⟨B, e, h1, own_below hR h2⟩)) (g14 (by simpa using h)), fun _ => ⟨B, rfl, hBW, hB⟩⟩
  rintro ac u ⟨t5, t10, t11, t12, t13, t14, t15, t16, t17, t18, t19, t20, t21, t22, t23, t24, rfl, hk, g0, g1, g2, g3, g4, g5, g6, g7, g8, g9, g10, g11, g12, g13, g14, g15⟩
  replace g0 := g0 (by simp)
  replace g1 := g1 (by simp)
  replace g2 := g2 (by simp)
  replace g3 := g3 (by simp)
  replace g4 := g4 (by simp)
  replace g5 := g5 (by simp)
  replace g6 := g6 (by simp)
  replace g7 := g7 (by simp)
  replace g8 := g8 (by simp)
  replace g9 := g9 (by simp)
  replace g10 := g10 (by simp)
  replace g11 := g11 (by simp)
  replace g12 := g12 (by simp)
  replace g13 := g13 (by simp)
  replace g14 := g14 (by simp)
  replace g15 := g15 (by simp)
  obtain ⟨B, rfl, hBW, hB⟩ := g15
  clear g0 g1 g2 g3 g4 g5 g6 g7 g8 g9 g10 g11 g12 g13 g14
  have zA := own_lt hA
  replace hA := own_below hk hA
  have hown : WsO u (w.heap.size + 1) (.slice (some ⟨B, 0, none⟩) 5 5) 5 ws0 := ⟨HL0.out, by rw [HW0.out]; rfl, .inr ⟨B, 5, _, rfl, by omega, hB, Nat.le_refl _, by unfold maxLen; omega, rfl, by rw [HW0.out]; rfl⟩⟩
  replace tt := tt.trans (hk.mono tt.size)
  clear hk hB hBW H0 H1 H2 H3 H4
  obtain ⟨i0, hi, hz0, hz1, hz2⟩ := info_parts infoStr
  obtain ⟨cA, fA⟩ := own_cells hA
  go_wp2_with fail
  go_loopw [5, 28] (fun wv i wr => ∃ q : Nat, i = .int .i64 (q : Int) ∧ q ≤ n ∧ Below w.heap.size w wr ∧ wr.heap[w.heap.size]? = some (.cells #[.int .i64 k, .int .i64 s, .int .i64 v, .int .i64 ve, .int .i64 nu, .slice sa n sc, .slice qa m qc, .int .i64 tg] 36 (0, 0)) ∧ ∃ (g c : Nat) (L : List (List UInt8)), wv = .slice (some ⟨g, 0, none⟩) (5 + q) c ∧ Hid (L = ws0 ++ (t.slots.map rtTxt).take q) ∧ WsO wr (w.heap.size + 1) (.slice (some ⟨g, 0, none⟩) (5 + q) c) (5 + q) L) (fun _ i _ => ((n : Int) - intOf i).toNat)
  case atStart => exact ⟨0, rfl, by omega, tt, hA, B, 5, ws0, rfl, hid (by simp), hown⟩
  case round =>
    clear tt hA hown cA fA
    obtain ⟨q, rfl, hqn, tt, hA, g, c, L, rfl, HL, hown⟩ := hrel
    have zA := own_lt hA
    by_cases hq : q < n
    · obtain ⟨b, off, x, rfl, hx, hlt, hc⟩ := HR.out.at (k := q) (by rw [← EN.out]; exact hq)
      have HX := hid hx
      obtain ⟨x0, x1, x2, x3, x4⟩ := hc.below tt hlt
      clear hc hx
      have hXX := (Below.refl wr.heap.size wr).alloc (Nat.le_refl _) (.cells #[.int .i64 x.t, .int .i64 x.v, .bool x.r, .bool x.w, .bool x.k] 38)
      go_wp2_with fail
      refine (rightText_any _ _ _ _ _ _).mono ?_
      rintro e w5 ⟨rfl, hb⟩
      clear x0 x1 x2 x3 x4
      replace hb := hXX.trans (hb.mono hXX.size)
      replace tt := tt.trans (hb.mono tt.size)
      replace hA := own_below hb hA
      replace hown := hown.below hb
      clear hb hXX
      have hsz : q + 5 < 12 := by omega
      have zW := own_lt hA
      have hY := own_new w5 (.cells #[.string (txt (rgtTxt x.t x.v x.r x.w x.k))] 9)
      have hBB := (Below.refl w5.heap.size w5).alloc (Nat.le_refl _) (.cells #[.string (txt (rgtTxt x.t x.v x.r x.w x.k))] 9)
      replace tt := tt.trans (hBB.mono tt.size)
      replace hA := own_below hBB hA
      replace hown := hown.below hBB
      go_wp2_with (at_builtin; refine wpList_append_own _ rfl _ _ 140 rfl (w.heap.size + 1) 9 i0 (.string ⟨#[]⟩) 1 16 (by kernel_rfl) hi hz0 hz1 hz2 rfl (by decide) _ _ _ rfl hown.2 ⟨w5.heap.size, 0, none⟩ 1 1 [.string (txt (rgtTxt x.t x.v x.r x.w x.k))] rfl rfl (cell_one hY) (fun v hv => by simp at hv; subst hv; rfl) (by unfold maxLen; omega) (by omega) (by simp; omega) ?_)
      intro v' u' hown' hgr _
      have hbw := grown_below hgr (fun k hk => (hown.2.lt k hk).1) (by simp; omega)
      replace tt := tt.trans (hbw.mono (Nat.le_succ _))
      replace hA := (hbw.block _ (by omega)).trans hA
      have hl1 := hown.1
      clear hown hgr hbw hBB hY
      replace hown' := WsO.snoc hl1 hown'
      obtain ⟨g', c', rfl, _⟩ := hown'.some (by omega)
      go_wp2_with fail
      go_roundw
      case rel =>
        have e1 : L ++ [rgtTxt x.t x.v x.r x.w x.k] = ws0 ++ (t.slots.map rtTxt).take (q + 1) := by
          rw [HL.out, List.take_add_one, List.getElem?_map, HX.out]; simp [rtTxt]
        exact ⟨q + 1, by go_num, by omega, tt, hA, g', c', _, rfl, hid e1, hown'⟩
      case measure => simp [intOf]; omega
    · obtain rfl : q = n := by omega
      replace HL : Hid (L = ws0 ++ t.slots.map rtTxt) := hid (by have := HL.out; rwa [List.take_of_length_le (by rw [List.length_map, EN.out]; exact Nat.le_refl _)] at this)
      obtain ⟨cA, fA⟩ := own_cells hA
      go_wp2_with fail
      go_loopw [5, 41] (fun wv i wr => ∃ p : Nat, i = .int .i64 (p : Int) ∧ p ≤ m ∧ Below w.heap.size w wr ∧ wr.heap[w.heap.size]? = some (.cells #[.int .i64 k, .int .i64 s, .int .i64 v, .int .i64 ve, .int .i64 nu, .slice sa q sc, .slice qa m qc, .int .i64 tg] 36 (0, 0)) ∧ ∃ (g c : Nat) (L : List (List UInt8)), wv = .slice (some ⟨g, 0, none⟩) (5 + q + p) c ∧ Hid (L = ws0 ++ t.slots.map rtTxt ++ (t.queue.map quW).take p) ∧ WsO wr (w.heap.size + 1) (.slice (some ⟨g, 0, none⟩) (5 + q + p) c) (5 + q + p) L) (fun _ i _ => ((m : Int) - intOf i).toNat)
      case atStart => exact ⟨0, rfl, by omega, tt, hA, g, c, L, rfl, hid (by rw [HL.out]; simp), hown⟩
      case round =>
        clear tt hA hown cA fA
        obtain ⟨p, rfl, hpm, tt, hA, g, c, L, rfl, HL, hown⟩ := hrel
        have zA := own_lt hA
        by_cases hp : p < m
        · obtain ⟨b, off, x, rfl, hx, hlt, hc⟩ := HQ.out.at (k := p) (by rw [← EM.out]; exact hp)
          have HX := hid hx
          have hxb := HQB.out x (List.mem_of_getElem? hx)
          have x0 := (tt.cell (p := ⟨b, off + p, none⟩) hlt).trans hc
          clear hc hx
          go_wp2_with fail
          refine (itoaI_any x (by omega) (by omega) _ (HT.out.below tt)).mono ?_
          rintro e w5 ⟨rfl, hb⟩
          clear x0
          replace tt := tt.trans (hb.mono tt.size)
          replace hA := own_below hb hA
          replace hown := hown.below hb
          clear hb
          have hsz : q + p + 5 < 12 := by omega
          have e2 : (⟨#[60]⟩ : ByteArray) ++ txt (decI x) = txt (quW x) := txt_append [60] (decI x)
          have e3 : ¬ 9223372036854775807 < 1 + (txt (decI x)).size := by rw [txt_size]; have := decI_len x; omega
          have zW := own_lt hA
          have hY := own_new w5 (.cells #[.string (txt (quW x))] 9)
          have hBB := (Below.refl w5.heap.size w5).alloc (Nat.le_refl _) (.cells #[.string (txt (quW x))] 9)
          replace tt := tt.trans (hBB.mono tt.size)
          replace hA := own_below hBB hA
          replace hown := hown.below hBB
          go_wp2_with (at_builtin; refine wpList_append_own _ rfl _ _ 140 rfl (w.heap.size + 1) 9 i0 (.string ⟨#[]⟩) 1 16 (by kernel_rfl) hi hz0 hz1 hz2 rfl (by decide) _ _ _ rfl hown.2 ⟨w5.heap.size, 0, none⟩ 1 1 [.string (txt (quW x))] rfl rfl (cell_one hY) (fun v hv => by simp at hv; subst hv; rfl) (by unfold maxLen; omega) (by omega) (by simp; omega) ?_)
          intro v' u' hown' hgr _
          have hbw := grown_below hgr (fun k hk => (hown.2.lt k hk).1) (by simp; omega)
          replace tt := tt.trans (hbw.mono (Nat.le_succ _))
          replace hA := (hbw.block _ (by omega)).trans hA
          have hl1 := hown.1
          clear hown hgr hbw hBB hY
          replace hown' := WsO.snoc hl1 hown'
          obtain ⟨g', c', rfl, _⟩ := hown'.some (by omega)
          go_wp2_with fail
          go_roundw
          case rel =>
            have e1 : L ++ [quW x] = ws0 ++ t.slots.map rtTxt ++ (t.queue.map quW).take (p + 1) := by
              rw [HL.out, List.take_add_one, List.getElem?_map, HX.out]; simp
            exact ⟨p + 1, by go_num, by omega, tt, hA, g', c', _, rfl, hid e1, hown'⟩
          case measure => simp [intOf]; omega
        · obtain rfl : p = m := by omega
          replace HL : Hid (L = ws0 ++ t.slots.map rtTxt ++ t.queue.map quW) := hid (by have := HL.out; rwa [List.take_of_length_le (by rw [List.length_map, EM.out]; exact Nat.le_refl _)] at this)
          obtain ⟨cA, fA⟩ := own_cells hA
          have hsz : q + p + 5 < 13 := by omega
          cases e5 : (k == 5)
          case false =>
            have hws : ws = L := by
              have := HGW.out
              rw [if_neg (by simpa using e5)] at this
              rw [HWL.out, this, List.append_nil, HL.out]
            rw [← hws] at hown
            obtain ⟨_, _, hv, hcap, hg, hcell⟩ := hown.some (by omega)
            cases hv
            have HJ := Tryd.strings_Join g 0 c (ws.map txt) (txt [32]) wr hcell hg (by simp [hown.1]; omega) (by simp [hown.1]; omega) (by rw [map_txt_list, txt_list]; have := HJL.out; omega)
            rw [map_txt_list, txt_list, List.length_map, hown.1] at HJ
            have HJ' := hid HJ
            have hz : ¬ 9223372036854775807 < (⟨(Lib.join ws [32]).toArray⟩ : ByteArray).size + 1 := by
              show ¬ _ < (txt _).size + 1
              rw [txt_size]; have := HJL.out; omega
            generalize (⟨(Lib.join ws [32]).toArray⟩ : ByteArray) = J at *
            clear HJ hcell
            go_wp2_with fail
            refine HJ'.out.mono ?_
            rintro e w6 ⟨rfl, hb⟩
            replace tt := tt.trans (hb.mono tt.size)
            go_wp2_with fail
            go_ret
            exact ⟨(congrArg (fun s => Ending.returned (.string s)) HLIN.out).symm, tt⟩
          case true =>
            obtain rfl : k = 5 := by simpa using e5
            have hws : Hid (ws = L ++ [62 :: decI tg]) := hid (by
              have := HGW.out
              rw [if_pos rfl] at this
              rw [HWL.out, this, HL.out])
            go_wp2_with fail
            refine (itoaI_any tg (by omega) (by omega) _ (HT.out.below tt)).mono ?_
            rintro e w5 ⟨rfl, hb⟩
            clear cA fA
            replace tt := tt.trans (hb.mono tt.size)
            replace hA := own_below hb hA
            replace hown := hown.below hb
            clear hb
            have e2 : (⟨#[62]⟩ : ByteArray) ++ txt (decI tg) = txt (62 :: decI tg) := txt_append [62] (decI tg)
            have e3 : ¬ 9223372036854775807 < 1 + (txt (decI tg)).size := by rw [txt_size]; have := decI_len tg; omega
            have zW := own_lt hA
            have hY := own_new w5 (.cells #[.string (txt (62 :: decI tg))] 9)
            have hBB := (Below.refl w5.heap.size w5).alloc (Nat.le_refl _) (.cells #[.string (txt (62 :: decI tg))] 9)
            replace tt := tt.trans (hBB.mono tt.size)
            replace hA := own_below hBB hA
            replace hown := hown.below hBB
            go_wp2_with (at_builtin; refine wpList_append_own _ rfl _ _ 140 rfl (w.heap.size + 1) 9 i0 (.string ⟨#[]⟩) 1 16 (by kernel_rfl) hi hz0 hz1 hz2 rfl (by decide) _ _ _ rfl hown.2 ⟨w5.heap.size, 0, none⟩ 1 1 [.string (txt (62 :: decI tg))] rfl rfl (cell_one hY) (fun v hv => by simp at hv; subst hv; rfl) (by unfold maxLen; omega) (by omega) (by simp; omega) ?_)
            intro v' u' hown' hgr _
            have hbw := grown_below hgr (fun k hk => (hown.2.lt k hk).1) (by simp; omega)
            replace tt := tt.trans (hbw.mono (Nat.le_succ _))
            replace hA := (hbw.block _ (by omega)).trans hA
            have hl1 := hown.1
            clear hown hgr hbw hBB hY
            replace hown' := WsO.snoc hl1 hown'
            obtain ⟨g', c', rfl, _⟩ := hown'.some (by omega)
            have hown2 : WsO u' (w.heap.size + 1) (.slice (some ⟨g', 0, none⟩) (5 + q + p + 1) c') (5 + q + p + 1) ws := by rw [hws.out]; exact hown'
            obtain ⟨_, _, hv, hcap, hg, hcell⟩ := hown2.some (by omega)
            cases hv
            have HJ := Tryd.strings_Join g' 0 c' (ws.map txt) (txt [32]) u' hcell hg (by simp [hown2.1]; omega) (by simp [hown2.1]; omega) (by rw [map_txt_list, txt_list]; have := HJL.out; omega)
            rw [map_txt_list, txt_list, List.length_map, hown2.1] at HJ
            have HJ' := hid HJ
            have hz : ¬ 9223372036854775807 < (⟨(Lib.join ws [32]).toArray⟩ : ByteArray).size + 1 := by
              show ¬ _ < (txt _).size + 1
              rw [txt_size]; have := HJL.out; omega
            generalize (⟨(Lib.join ws [32]).toArray⟩ : ByteArray) = J at *
            clear HJ hcell hown' hown2 hws
            go_wp2_with fail
            refine HJ'.out.mono ?_
            rintro e w6 ⟨rfl, hb⟩
            replace tt := tt.trans (hb.mono tt.size)
            go_wp2_with fail
            go_ret
            exact ⟨(congrArg (fun s => Ending.returned (.string s)) HLIN.out).symm, tt⟩
end Go.Proofs.YtcgmnpppdoadhaaDoor
