/- The reference's texts of tables: contracts of l3Thing, l3Text, TableText. They ask that the things are ones. -/
import Derived.Test.YtcgmnpppdoadhaaDoorItI
import Derived.Test.YtcgmnpppdoadhaaDoorTbl2
import Derived.Test.YtcgmnpppdoadhaaDoorOwn
namespace Go.Proofs.YtcgmnpppdoadhaaDoor
set_option maxRecDepth 100000
open Go Go.RowKit
set_option linter.unusedVariables false
set_option linter.unusedSimpArgs false

theorem kn_at {k : Int} (h1 : 1 ≤ k) (h2 : k ≤ 5) : ∃ kk : Nat, k = (kk : Int) ∧ kk < 6 ∧ (#[Value.string ⟨#[]⟩, .string ⟨#[112, 97, 103, 101]⟩, .string ⟨#[110, 111, 100, 101]⟩, .string ⟨#[114, 117, 110]⟩, .string ⟨#[112, 105, 112, 101]⟩, .string ⟨#[103, 97, 116, 101]⟩])[kk]? = some (.string (txt (kn k))) := by
  have : k = 1 ∨ k = 2 ∨ k = 3 ∨ k = 4 ∨ k = 5 := by omega
  rcases this with rfl | rfl | rfl | rfl | rfl
  · exact ⟨1, rfl, by omega, rfl⟩
  · exact ⟨2, rfl, by omega, rfl⟩
  · exact ⟨3, rfl, by omega, rfl⟩
  · exact ⟨4, rfl, by omega, rfl⟩
  · exact ⟨5, rfl, by omega, rfl⟩
set_option maxHeartbeats 4000000 in
set_option maxRecDepth 100000 in
theorem l3Thing_any (t : Th) (sa qa : Option Addr) (sc qc : Nat) (w : World) (hok : t.ok = true) (hR : RowR w sa t.slots) (hQ : RowI w qa t.queue) :
    Calls Tryd.prog 69 #[.agg #[.int .i64 t.kind, .int .i64 t.sec, .int .i64 t.vou, .int .i64 t.vers, .int .i64 t.num, .slice sa t.slots.length sc, .slice qa t.queue.length qc, .int .i64 t.tg]] w fun e w' => e = .returned (.string (txt (l3Th t))) ∧ Below w.heap.size w w' := by
  obtain ⟨k1, k2, hlb, v1, v2, n1, n2, hq, hs, g1, g2⟩ := ok_bds hok
  obtain ⟨hs4, hq3⟩ := ok_lens hok
  obtain ⟨ws0, ews0⟩ : ∃ ws0, ws0 = [lblTxt t.sec t.vou, decI t.vers, decI t.num] := ⟨_, rfl⟩
  obtain ⟨p0, ep0⟩ : ∃ p0, p0 = kn t.kind ++ Lib.joinTail [32] ws0 := ⟨_, rfl⟩
  have hp0 : txt (kn t.kind) ++ ⟨#[32]⟩ ++ txt (lblTxt t.sec t.vou) ++ ⟨#[32]⟩ ++ txt (decI t.vers) ++ ⟨#[32]⟩ ++ txt (decI t.num) = txt p0 := by
    rw [ep0, ews0]
    show txt _ ++ txt [32] ++ txt _ ++ txt [32] ++ txt _ ++ txt [32] ++ txt _ = _
    simp only [txt_append]
    congr 1
    simp [Lib.joinTail]
  have hp0l : p0.length ≤ 31 := by
    rw [ep0, ews0]
    have a := jt_le [lblTxt t.sec t.vou, decI t.vers, decI t.num] (fun x hx => thWs_len t x (by unfold thWs; simp only [List.mem_append]; exact .inl (.inl (.inl hx))))
    have c := kn_len t.kind
    simp only [List.length_append, List.length_cons, List.length_nil] at a ⊢
    omega
  have hfin : l3Th t = p0 ++ Lib.joinTail [32] (t.slots.map rtTxt) ++ Lib.joinTail [32] (t.queue.map quW) ++ Lib.joinTail [32] (gateW t) ++ [10] := by
    rw [ep0]
    unfold l3Th thWs
    rw [jt_append, jt_append, jt_append, ← ews0]
    simp only [List.append_assoc]
  have hgW : gateW t = if t.kind = 5 then [62 :: decI t.tg] else [] := rfl
  have HFIN := hid hfin
  have HGW := hid hgW
  have HP0 := hid hp0
  have z1 : (txt (kn t.kind)).size ≤ 4 := by rw [txt_size]; exact kn_len _
  have z2 : (txt (lblTxt t.sec t.vou)).size ≤ 5 := by rw [txt_size]; exact lblTxt_len _ _
  have z3 : (txt (decI t.vers)).size ≤ 3 := by rw [txt_size]; exact decI_len _
  have z4 : (txt (decI t.num)).size ≤ 3 := by rw [txt_size]; exact decI_len _
  obtain ⟨kk, ekk, hkk, hKN⟩ := kn_at k1 k2
  clear ews0 ep0 hp0 hfin hgW hok
  have H2 := hid (fun u => slabelText_any t.sec t.vou u)
  have H3 := hid (fun u => l6DecI_any t.vers (by omega) (by omega) u)
  have H4 := hid (fun u => l6DecI_any t.num (by omega) (by omega) u)
  generalize txt (kn t.kind) = D1 at *
  generalize txt (lblTxt t.sec t.vou) = D2 at *
  generalize txt (decI t.vers) = D3 at *
  generalize txt (decI t.num) = D4 at *
  have hA := own_new w (.cells #[.int .i64 t.kind, .int .i64 t.sec, .int .i64 t.vou, .int .i64 t.vers, .int .i64 t.num, .slice sa t.slots.length sc, .slice qa t.queue.length qc, .int .i64 t.tg] 36)
  have tt : Below w.heap.size w (w.alloc (.cells #[.int .i64 t.kind, .int .i64 t.sec, .int .i64 t.vou, .int .i64 t.vers, .int .i64 t.num, .slice sa t.slots.length sc, .slice qa t.queue.length qc, .int .i64 t.tg] 36)) := (Below.refl _ _).alloc (Nat.le_refl _) _
  obtain ⟨n, en⟩ : ∃ n, n = t.slots.length := ⟨_, rfl⟩
  obtain ⟨m, em⟩ : ∃ m, m = t.queue.length := ⟨_, rfl⟩
  rw [← en, ← em] at hA tt ⊢
  rw [← en] at hs4
  rw [← em] at hq3
  have EN := hid en
  have EM := hid em
  have HR := hid hR
  have HQ := hid hQ
  have HQB := hid hq
  clear en em hR hQ hq hs
  rw [ekk] at hA tt HGW k1 k2 ⊢
  have EKK := hid ekk
  clear ekk
  generalize t.sec = s at *
  generalize t.vou = v at *
  generalize t.vers = ve at *
  generalize t.num = nu at *
  generalize etg : t.tg = tg at *
  have q1 : ¬ 9223372036854775807 < D1.size + 1 := by omega
  have q2 : ¬ 9223372036854775807 < D1.size + 1 + D2.size := by omega
  have q3 : ¬ 9223372036854775807 < D1.size + 1 + D2.size + 1 := by omega
  have q4 : ¬ 9223372036854775807 < D1.size + 1 + D2.size + 1 + D3.size := by omega
  have q5 : ¬ 9223372036854775807 < D1.size + 1 + D2.size + 1 + D3.size + 1 := by omega
  have q6 : ¬ 9223372036854775807 < D1.size + 1 + D2.size + 1 + D3.size + 1 + D4.size := by omega
  have hkk6 : (kk : Int) < 6 := by omega
  go_enter Tryd.func69, Tryd.ntmps69
  go_upto_region 1 with fail
  refine named (p := fun W => Code.wp _ _ _ _ W) _ ?_
  intro W hW
  replace hA := own_eq hW hA
  rw [hW] at tt
  clear hW
  refine wp_region_each (by kernel_rfl) (by kernel_rfl) (by kernel_rfl) (fun b ac u => ∃ t3 t6 t7 t8 t9 t10 t11 t12 t13 t14 t15 t16 t17 t18 t19 t20 t21 t22 t23 t24 t25 : Value, ac = ⟨#[.agg #[.int .i64 (kk : Int), .int .i64 s, .int .i64 v, .int .i64 ve, .int .i64 nu, .slice sa n sc, .slice qa m qc, .int .i64 tg], .pointer (some ⟨w.heap.size, 0, none⟩), .string ⟨#[]⟩, t3, undef, undef, t6, t7, t8, t9, t10, t11, t12, t13, t14, t15, t16, t17, t18, t19, t20, t21, t22, t23, t24, t25, undef, undef, undef, undef, undef, undef, undef, undef, undef, undef, undef, undef, undef, undef, undef, undef, undef, undef, undef, undef, undef, undef, undef, undef, undef, undef, undef, undef, undef, undef, undef, undef, undef, undef, undef, undef, undef, undef, undef, undef, undef, undef, undef], []⟩ ∧ (Below W.heap.size W u) ∧ (b[0]? = some true → ∃ B : Nat, t6 = .slice (some ⟨B, 0, none⟩) 6 6 ∧ u.heap[B]? = some (.cells #[.string ⟨#[]⟩, .string ⟨#[112, 97, 103, 101]⟩, .string ⟨#[110, 111, 100, 101]⟩, .string ⟨#[114, 117, 110]⟩, .string ⟨#[112, 105, 112, 101]⟩, .string ⟨#[103, 97, 116, 101]⟩] 9 (0, 0))) ∧ (b[1]? = some true → t7 = .pointer (some ⟨w.heap.size, 0, none⟩)) ∧ (b[2]? = some true → t8 = .int .i64 (kk : Int)) ∧ (b[3]? = some true → ∃ B : Nat, t9 = .pointer (some ⟨B, kk, none⟩) ∧ u.heap[B]? = some (.cells #[.string ⟨#[]⟩, .string ⟨#[112, 97, 103, 101]⟩, .string ⟨#[110, 111, 100, 101]⟩, .string ⟨#[114, 117, 110]⟩, .string ⟨#[112, 105, 112, 101]⟩, .string ⟨#[103, 97, 116, 101]⟩] 9 (0, 0))) ∧ (b[4]? = some true → t10 = .string D1) ∧ (b[5]? = some true → t11 = .string (D1 ++ ⟨#[32]⟩)) ∧ (b[6]? = some true → t12 = .pointer (some ⟨w.heap.size, 1, none⟩)) ∧ (b[7]? = some true → t13 = .agg #[.int .i64 s, .int .i64 v]) ∧ (b[8]? = some true → t14 = .string D2) ∧ (b[9]? = some true → t15 = .string (D1 ++ ⟨#[32]⟩ ++ D2)) ∧ (b[10]? = some true → t16 = .string (D1 ++ ⟨#[32]⟩ ++ D2 ++ ⟨#[32]⟩)) ∧ (b[11]? = some true → t17 = .pointer (some ⟨w.heap.size, 3, none⟩)) ∧ (b[12]? = some true → t18 = .int .i64 ve) ∧ (b[13]? = some true → t19 = .string D3) ∧ (b[14]? = some true → t20 = .string (D1 ++ ⟨#[32]⟩ ++ D2 ++ ⟨#[32]⟩ ++ D3)) ∧ (b[15]? = some true → t21 = .string (D1 ++ ⟨#[32]⟩ ++ D2 ++ ⟨#[32]⟩ ++ D3 ++ ⟨#[32]⟩)) ∧ (b[16]? = some true → t22 = .pointer (some ⟨w.heap.size, 4, none⟩)) ∧ (b[17]? = some true → t23 = .int .i64 nu) ∧ (b[18]? = some true → t24 = .string D4) ∧ (b[19]? = some true → t25 = .string (D1 ++ ⟨#[32]⟩ ++ D2 ++ ⟨#[32]⟩ ++ D3 ++ ⟨#[32]⟩ ++ D4)) ∧ (b[20]? = some true → t3 = .string (D1 ++ ⟨#[32]⟩ ++ D2 ++ ⟨#[32]⟩ ++ D3 ++ ⟨#[32]⟩ ++ D4))) ?h0_1 ⟨?o1_0, ?o1_1, ?o1_2, ?o1_3, ?o1_4, ?o1_5, ?o1_6, ?o1_7, ?o1_8, ?o1_9, ?o1_10, ?o1_11, ?o1_12, ?o1_13, ?o1_14, ?o1_15, ?o1_16, ?o1_17, ?o1_18, ?o1_19, ?o1_20, trivial⟩ ?hend_1
  case h0_1 => exact ⟨undef, undef, undef, undef, undef, undef, undef, undef, undef, undef, undef, undef, undef, undef, undef, undef, undef, undef, undef, undef, undef, rfl, (Below.refl _ _).drew, by simp, by simp, by simp, by simp, by simp, by simp, by simp, by simp, by simp, by simp, by simp, by simp, by simp, by simp, by simp, by simp, by simp, by simp, by simp, by simp, by simp⟩
  case o1_0 =>
    rintro b ac u hbl hbi hcl he ⟨t3, t6, t7, t8, t9, t10, t11, t12, t13, t14, t15, t16, t17, t18, t19, t20, t21, t22, t23, t24, t25, rfl, hk, g0, g1, g2, g3, g4, g5, g6, g7, g8, g9, g10, g11, g12, g13, g14, g15, g16, g17, g18, g19, g20⟩ K hK
    clear he
    go_simp
    have hR := (Below.refl u.heap.size u).alloc (Nat.le_refl _) (.cells #[.string ⟨#[]⟩, .string ⟨#[112, 97, 103, 101]⟩, .string ⟨#[110, 111, 100, 101]⟩, .string ⟨#[114, 117, 110]⟩, .string ⟨#[112, 105, 112, 101]⟩, .string ⟨#[103, 97, 116, 101]⟩] 9)
    exact hK _ _ ⟨_, _, _, _, _, _, _, _, _, _, _, _, _, _, _, _, _, _, _, _, _, rfl, hk.trans (hR.mono hk.size), fun _ => ⟨_, rfl, own_new _ _⟩, fun h => g1 (by simpa using h), fun h => g2 (by simpa using h), fun h => (fun g => (by obtain ⟨B, e, h2⟩ := g; exact ⟨B, e, own_below hR h2⟩)) (g3 (by simpa using h)), fun h => g4 (by simpa using h), fun h => g5 (by simpa using h), fun h => g6 (by simpa using h), fun h => g7 (by simpa using h), fun h => g8 (by simpa using h), fun h => g9 (by simpa using h), fun h => g10 (by simpa using h), fun h => g11 (by simpa using h), fun h => g12 (by simpa using h), fun h => g13 (by simpa using h), fun h => g14 (by simpa using h), fun h => g15 (by simpa using h), fun h => g16 (by simpa using h), fun h => g17 (by simpa using h), fun h => g18 (by simpa using h), fun h => g19 (by simpa using h), fun h => g20 (by simpa using h)⟩
  case o1_1 =>
    rintro b ac u hbl hbi hcl he ⟨t3, t6, t7, t8, t9, t10, t11, t12, t13, t14, t15, t16, t17, t18, t19, t20, t21, t22, t23, t24, t25, rfl, hk, g0, g1, g2, g3, g4, g5, g6, g7, g8, g9, g10, g11, g12, g13, g14, g15, g16, g17, g18, g19, g20⟩ K hK
    clear he
    go_simp
    have hR := Below.refl u.heap.size u
    exact hK _ _ ⟨_, _, _, _, _, _, _, _, _, _, _, _, _, _, _, _, _, _, _, _, _, rfl, hk.trans (hR.mono hk.size), fun h => (fun g => (by obtain ⟨B, e, h2⟩ := g; exact ⟨B, e, own_below hR h2⟩)) (g0 (by simpa using h)), fun _ => rfl, fun h => g2 (by simpa using h), fun h => (fun g => (by obtain ⟨B, e, h2⟩ := g; exact ⟨B, e, own_below hR h2⟩)) (g3 (by simpa using h)), fun h => g4 (by simpa using h), fun h => g5 (by simpa using h), fun h => g6 (by simpa using h), fun h => g7 (by simpa using h), fun h => g8 (by simpa using h), fun h => g9 (by simpa using h), fun h => g10 (by simpa using h), fun h => g11 (by simpa using h), fun h => g12 (by simpa using h), fun h => g13 (by simpa using h), fun h => g14 (by simpa using h), fun h => g15 (by simpa using h), fun h => g16 (by simpa using h), fun h => g17 (by simpa using h), fun h => g18 (by simpa using h), fun h => g19 (by simpa using h), fun h => g20 (by simpa using h)⟩
  case o1_2 =>
    rintro b ac u hbl hbi hcl he ⟨t3, t6, t7, t8, t9, t10, t11, t12, t13, t14, t15, t16, t17, t18, t19, t20, t21, t22, t23, t24, t25, rfl, hk, g0, g1, g2, g3, g4, g5, g6, g7, g8, g9, g10, g11, g12, g13, g14, g15, g16, g17, g18, g19, g20⟩ K hK
    have p1 : b[1]? = some true := by simp [Region.binds] at he; simp [he]
    obtain rfl := g1 p1
    clear he
    have cT := (own_cells (own_below hk hA)).1
    have fT := (own_cells (own_below hk hA)).2
    go_simp
    have hR := Below.refl u.heap.size u
    exact hK _ _ ⟨_, _, _, _, _, _, _, _, _, _, _, _, _, _, _, _, _, _, _, _, _, rfl, hk.trans (hR.mono hk.size), fun h => (fun g => (by obtain ⟨B, e, h2⟩ := g; exact ⟨B, e, own_below hR h2⟩)) (g0 (by simpa using h)), fun h => g1 (by simpa using h), fun _ => rfl, fun h => (fun g => (by obtain ⟨B, e, h2⟩ := g; exact ⟨B, e, own_below hR h2⟩)) (g3 (by simpa using h)), fun h => g4 (by simpa using h), fun h => g5 (by simpa using h), fun h => g6 (by simpa using h), fun h => g7 (by simpa using h), fun h => g8 (by simpa using h), fun h => g9 (by simpa using h), fun h => g10 (by simpa using h), fun h => g11 (by simpa using h), fun h => g12 (by simpa using h), fun h => g13 (by simpa using h), fun h => g14 (by simpa using h), fun h => g15 (by simpa using h), fun h => g16 (by simpa using h), fun h => g17 (by simpa using h), fun h => g18 (by simpa using h), fun h => g19 (by simpa using h), fun h => g20 (by simpa using h)⟩
  case o1_3 =>
    rintro b ac u hbl hbi hcl he ⟨t3, t6, t7, t8, t9, t10, t11, t12, t13, t14, t15, t16, t17, t18, t19, t20, t21, t22, t23, t24, t25, rfl, hk, g0, g1, g2, g3, g4, g5, g6, g7, g8, g9, g10, g11, g12, g13, g14, g15, g16, g17, g18, g19, g20⟩ K hK
    have p0 : b[0]? = some true := by simp [Region.binds] at he; simp [he]
    have p2 : b[2]? = some true := by simp [Region.binds] at he; simp [he]
    obtain ⟨B, rfl, hB⟩ := g0 p0
    obtain rfl := g2 p2
    clear he
    go_simp
    have hR := Below.refl u.heap.size u
    exact hK _ _ ⟨_, _, _, _, _, _, _, _, _, _, _, _, _, _, _, _, _, _, _, _, _, rfl, hk.trans (hR.mono hk.size), fun h => (fun g => (by obtain ⟨B, e, h2⟩ := g; exact ⟨B, e, own_below hR h2⟩)) (g0 (by simpa using h)), fun h => g1 (by simpa using h), fun h => g2 (by simpa using h), fun _ => ⟨B, rfl, hB⟩, fun h => g4 (by simpa using h), fun h => g5 (by simpa using h), fun h => g6 (by simpa using h), fun h => g7 (by simpa using h), fun h => g8 (by simpa using h), fun h => g9 (by simpa using h), fun h => g10 (by simpa using h), fun h => g11 (by simpa using h), fun h => g12 (by simpa using h), fun h => g13 (by simpa using h), fun h => g14 (by simpa using h), fun h => g15 (by simpa using h), fun h => g16 (by simpa using h), fun h => g17 (by simpa using h), fun h => g18 (by simpa using h), fun h => g19 (by simpa using h), fun h => g20 (by simpa using h)⟩
  case o1_4 =>
    rintro b ac u hbl hbi hcl he ⟨t3, t6, t7, t8, t9, t10, t11, t12, t13, t14, t15, t16, t17, t18, t19, t20, t21, t22, t23, t24, t25, rfl, hk, g0, g1, g2, g3, g4, g5, g6, g7, g8, g9, g10, g11, g12, g13, g14, g15, g16, g17, g18, g19, g20⟩ K hK
    have p3 : b[3]? = some true := by simp [Region.binds] at he; simp [he]
    obtain ⟨B, rfl, hB⟩ := g3 p3
    clear he
    have cB := ((own_cells hB).1 kk).trans hKN
    go_simp
    have hR := Below.refl u.heap.size u
    exact hK _ _ ⟨_, _, _, _, _, _, _, _, _, _, _, _, _, _, _, _, _, _, _, _, _, rfl, hk.trans (hR.mono hk.size), fun h => (fun g => (by obtain ⟨B, e, h2⟩ := g; exact ⟨B, e, own_below hR h2⟩)) (g0 (by simpa using h)), fun h => g1 (by simpa using h), fun h => g2 (by simpa using h), fun h => (fun g => (by obtain ⟨B, e, h2⟩ := g; exact ⟨B, e, own_below hR h2⟩)) (g3 (by simpa using h)), fun _ => rfl, fun h => g5 (by simpa using h), fun h => g6 (by simpa using h), fun h => g7 (by simpa using h), fun h => g8 (by simpa using h), fun h => g9 (by simpa using h), fun h => g10 (by simpa using h), fun h => g11 (by simpa using h), fun h => g12 (by simpa using h), fun h => g13 (by simpa using h), fun h => g14 (by simpa using h), fun h => g15 (by simpa using h), fun h => g16 (by simpa using h), fun h => g17 (by simpa using h), fun h => g18 (by simpa using h), fun h => g19 (by simpa using h), fun h => g20 (by simpa using h)⟩
  case o1_5 =>
    rintro b ac u hbl hbi hcl he ⟨t3, t6, t7, t8, t9, t10, t11, t12, t13, t14, t15, t16, t17, t18, t19, t20, t21, t22, t23, t24, t25, rfl, hk, g0, g1, g2, g3, g4, g5, g6, g7, g8, g9, g10, g11, g12, g13, g14, g15, g16, g17, g18, g19, g20⟩ K hK
    have p4 : b[4]? = some true := by simp [Region.binds] at he; simp [he]
    obtain rfl := g4 p4
    clear he
    go_simp
    have hR := Below.refl u.heap.size u
    exact hK _ _ ⟨_, _, _, _, _, _, _, _, _, _, _, _, _, _, _, _, _, _, _, _, _, rfl, hk.trans (hR.mono hk.size), fun h => (fun g => (by obtain ⟨B, e, h2⟩ := g; exact ⟨B, e, own_below hR h2⟩)) (g0 (by simpa using h)), fun h => g1 (by simpa using h), fun h => g2 (by simpa using h), fun h => (fun g => (by obtain ⟨B, e, h2⟩ := g; exact ⟨B, e, own_below hR h2⟩)) (g3 (by simpa using h)), fun h => g4 (by simpa using h), fun _ => rfl, fun h => g6 (by simpa using h), fun h => g7 (by simpa using h), fun h => g8 (by simpa using h), fun h => g9 (by simpa using h), fun h => g10 (by simpa using h), fun h => g11 (by simpa using h), fun h => g12 (by simpa using h), fun h => g13 (by simpa using h), fun h => g14 (by simpa using h), fun h => g15 (by simpa using h), fun h => g16 (by simpa using h), fun h => g17 (by simpa using h), fun h => g18 (by simpa using h), fun h => g19 (by simpa using h), fun h => g20 (by simpa using h)⟩
  case o1_6 =>
    rintro b ac u hbl hbi hcl he ⟨t3, t6, t7, t8, t9, t10, t11, t12, t13, t14, t15, t16, t17, t18, t19, t20, t21, t22, t23, t24, t25, rfl, hk, g0, g1, g2, g3, g4, g5, g6, g7, g8, g9, g10, g11, g12, g13, g14, g15, g16, g17, g18, g19, g20⟩ K hK
    clear he
    go_simp
    have hR := Below.refl u.heap.size u
    exact hK _ _ ⟨_, _, _, _, _, _, _, _, _, _, _, _, _, _, _, _, _, _, _, _, _, rfl, hk.trans (hR.mono hk.size), fun h => (fun g => (by obtain ⟨B, e, h2⟩ := g; exact ⟨B, e, own_below hR h2⟩)) (g0 (by simpa using h)), fun h => g1 (by simpa using h), fun h => g2 (by simpa using h), fun h => (fun g => (by obtain ⟨B, e, h2⟩ := g; exact ⟨B, e, own_below hR h2⟩)) (g3 (by simpa using h)), fun h => g4 (by simpa using h), fun h => g5 (by simpa using h), fun _ => rfl, fun h => g7 (by simpa using h), fun h => g8 (by simpa using h), fun h => g9 (by simpa using h), fun h => g10 (by simpa using h), fun h => g11 (by simpa using h), fun h => g12 (by simpa using h), fun h => g13 (by simpa using h), fun h => g14 (by simpa using h), fun h => g15 (by simpa using h), fun h => g16 (by simpa using h), fun h => g17 (by simpa using h), fun h => g18 (by simpa using h), fun h => g19 (by simpa using h), fun h => g20 (by simpa using h)⟩
  case o1_7 =>
    rintro b ac u hbl hbi hcl he ⟨t3, t6, t7, t8, t9, t10, t11, t12, t13, t14, t15, t16, t17, t18, t19, t20, t21, t22, t23, t24, t25, rfl, hk, g0, g1, g2, g3, g4, g5, g6, g7, g8, g9, g10, g11, g12, g13, g14, g15, g16, g17, g18, g19, g20⟩ K hK
    have p6 : b[6]? = some true := by simp [Region.binds] at he; simp [he]
    obtain rfl := g6 p6
    clear he
    have cT := (own_cells (own_below hk hA)).1
    have fT := (own_cells (own_below hk hA)).2
    go_simp
    have hR := Below.refl u.heap.size u
    exact hK _ _ ⟨_, _, _, _, _, _, _, _, _, _, _, _, _, _, _, _, _, _, _, _, _, rfl, hk.trans (hR.mono hk.size), fun h => (fun g => (by obtain ⟨B, e, h2⟩ := g; exact ⟨B, e, own_below hR h2⟩)) (g0 (by simpa using h)), fun h => g1 (by simpa using h), fun h => g2 (by simpa using h), fun h => (fun g => (by obtain ⟨B, e, h2⟩ := g; exact ⟨B, e, own_below hR h2⟩)) (g3 (by simpa using h)), fun h => g4 (by simpa using h), fun h => g5 (by simpa using h), fun h => g6 (by simpa using h), fun _ => rfl, fun h => g8 (by simpa using h), fun h => g9 (by simpa using h), fun h => g10 (by simpa using h), fun h => g11 (by simpa using h), fun h => g12 (by simpa using h), fun h => g13 (by simpa using h), fun h => g14 (by simpa using h), fun h => g15 (by simpa using h), fun h => g16 (by simpa using h), fun h => g17 (by simpa using h), fun h => g18 (by simpa using h), fun h => g19 (by simpa using h), fun h => g20 (by simpa using h)⟩
  case o1_8 =>
    rintro b ac u hbl hbi hcl he ⟨t3, t6, t7, t8, t9, t10, t11, t12, t13, t14, t15, t16, t17, t18, t19, t20, t21, t22, t23, t24, t25, rfl, hk, g0, g1, g2, g3, g4, g5, g6, g7, g8, g9, g10, g11, g12, g13, g14, g15, g16, g17, g18, g19, g20⟩ K hK
    have p7 : b[7]? = some true := by simp [Region.binds] at he; simp [he]
    obtain rfl := g7 p7
    clear he
    go_simp
    refine (H2.out _).mono ?_
    rintro e u' ⟨rfl, hR⟩
    go_simp
    exact hK _ _ ⟨_, _, _, _, _, _, _, _, _, _, _, _, _, _, _, _, _, _, _, _, _, rfl, hk.trans (hR.mono hk.size), fun h => (fun g => (by obtain ⟨B, e, h2⟩ := g; exact ⟨B, e, own_below hR h2⟩)) (g0 (by simpa using h)), fun h => g1 (by simpa using h), fun h => g2 (by simpa using h), fun h => (fun g => (by obtain ⟨B, e, h2⟩ := g; exact ⟨B, e, own_below hR h2⟩)) (g3 (by simpa using h)), fun h => g4 (by simpa using h), fun h => g5 (by simpa using h), fun h => g6 (by simpa using h), fun h => g7 (by simpa using h), fun _ => rfl, fun h => g9 (by simpa using h), fun h => g10 (by simpa using h), fun h => g11 (by simpa using h), fun h => g12 (by simpa using h), fun h => g13 (by simpa using h), fun h => g14 (by simpa using h), fun h => g15 (by simpa using h), fun h => g16 (by simpa using h), fun h => g17 (by simpa using h), fun h => g18 (by simpa using h), fun h => g19 (by simpa using h), fun h => g20 (by simpa using h)⟩
  case o1_9 =>
    rintro b ac u hbl hbi hcl he ⟨t3, t6, t7, t8, t9, t10, t11, t12, t13, t14, t15, t16, t17, t18, t19, t20, t21, t22, t23, t24, t25, rfl, hk, g0, g1, g2, g3, g4, g5, g6, g7, g8, g9, g10, g11, g12, g13, g14, g15, g16, g17, g18, g19, g20⟩ K hK
    have p5 : b[5]? = some true := by simp [Region.binds] at he; simp [he]
    have p8 : b[8]? = some true := by simp [Region.binds] at he; simp [he]
    obtain rfl := g5 p5
    obtain rfl := g8 p8
    clear he
    go_simp
    have hR := Below.refl u.heap.size u
    exact hK _ _ ⟨_, _, _, _, _, _, _, _, _, _, _, _, _, _, _, _, _, _, _, _, _, rfl, hk.trans (hR.mono hk.size), fun h => (fun g => (by obtain ⟨B, e, h2⟩ := g; exact ⟨B, e, own_below hR h2⟩)) (g0 (by simpa using h)), fun h => g1 (by simpa using h), fun h => g2 (by simpa using h), fun h => (fun g => (by obtain ⟨B, e, h2⟩ := g; exact ⟨B, e, own_below hR h2⟩)) (g3 (by simpa using h)), fun h => g4 (by simpa using h), fun h => g5 (by simpa using h), fun h => g6 (by simpa using h), fun h => g7 (by simpa using h), fun h => g8 (by simpa using h), fun _ => rfl, fun h => g10 (by simpa using h), fun h => g11 (by simpa using h), fun h => g12 (by simpa using h), fun h => g13 (by simpa using h), fun h => g14 (by simpa using h), fun h => g15 (by simpa using h), fun h => g16 (by simpa using h), fun h => g17 (by simpa using h), fun h => g18 (by simpa using h), fun h => g19 (by simpa using h), fun h => g20 (by simpa using h)⟩
  case o1_10 =>
    rintro b ac u hbl hbi hcl he ⟨t3, t6, t7, t8, t9, t10, t11, t12, t13, t14, t15, t16, t17, t18, t19, t20, t21, t22, t23, t24, t25, rfl, hk, g0, g1, g2, g3, g4, g5, g6, g7, g8, g9, g10, g11, g12, g13, g14, g15, g16, g17, g18, g19, g20⟩ K hK
    have p9 : b[9]? = some true := by simp [Region.binds] at he; simp [he]
    obtain rfl := g9 p9
    clear he
    go_simp
    have hR := Below.refl u.heap.size u
    exact hK _ _ ⟨_, _, _, _, _, _, _, _, _, _, _, _, _, _, _, _, _, _, _, _, _, rfl, hk.trans (hR.mono hk.size), fun h => (fun g => (by obtain ⟨B, e, h2⟩ := g; exact ⟨B, e, own_below hR h2⟩)) (g0 (by simpa using h)), fun h => g1 (by simpa using h), fun h => g2 (by simpa using h), fun h => (fun g => (by obtain ⟨B, e, h2⟩ := g; exact ⟨B, e, own_below hR h2⟩)) (g3 (by simpa using h)), fun h => g4 (by simpa using h), fun h => g5 (by simpa using h), fun h => g6 (by simpa using h), fun h => g7 (by simpa using h), fun h => g8 (by simpa using h), fun h => g9 (by simpa using h), fun _ => rfl, fun h => g11 (by simpa using h), fun h => g12 (by simpa using h), fun h => g13 (by simpa using h), fun h => g14 (by simpa using h), fun h => g15 (by simpa using h), fun h => g16 (by simpa using h), fun h => g17 (by simpa using h), fun h => g18 (by simpa using h), fun h => g19 (by simpa using h), fun h => g20 (by simpa using h)⟩
  case o1_11 =>
    rintro b ac u hbl hbi hcl he ⟨t3, t6, t7, t8, t9, t10, t11, t12, t13, t14, t15, t16, t17, t18, t19, t20, t21, t22, t23, t24, t25, rfl, hk, g0, g1, g2, g3, g4, g5, g6, g7, g8, g9, g10, g11, g12, g13, g14, g15, g16, g17, g18, g19, g20⟩ K hK
    clear he
    go_simp
    have hR := Below.refl u.heap.size u
    exact hK _ _ ⟨_, _, _, _, _, _, _, _, _, _, _, _, _, _, _, _, _, _, _, _, _, rfl, hk.trans (hR.mono hk.size), fun h => (fun g => (by obtain ⟨B, e, h2⟩ := g; exact ⟨B, e, own_below hR h2⟩)) (g0 (by simpa using h)), fun h => g1 (by simpa using h), fun h => g2 (by simpa using h), fun h => (fun g => (by obtain ⟨B, e, h2⟩ := g; exact ⟨B, e, own_below hR h2⟩)) (g3 (by simpa using h)), fun h => g4 (by simpa using h), fun h => g5 (by simpa using h), fun h => g6 (by simpa using h), fun h => g7 (by simpa using h), fun h => g8 (by simpa using h), fun h => g9 (by simpa using h), fun h => g10 (by simpa using h), fun _ => rfl, fun h => g12 (by simpa using h), fun h => g13 (by simpa using h), fun h => g14 (by simpa using h), fun h => g15 (by simpa using h), fun h => g16 (by simpa using h), fun h => g17 (by simpa using h), fun h => g18 (by simpa using h), fun h => g19 (by simpa using h), fun h => g20 (by simpa using h)⟩
  case o1_12 =>
    rintro b ac u hbl hbi hcl he ⟨t3, t6, t7, t8, t9, t10, t11, t12, t13, t14, t15, t16, t17, t18, t19, t20, t21, t22, t23, t24, t25, rfl, hk, g0, g1, g2, g3, g4, g5, g6, g7, g8, g9, g10, g11, g12, g13, g14, g15, g16, g17, g18, g19, g20⟩ K hK
    have p11 : b[11]? = some true := by simp [Region.binds] at he; simp [he]
    obtain rfl := g11 p11
    clear he
    have cT := (own_cells (own_below hk hA)).1
    have fT := (own_cells (own_below hk hA)).2
    go_simp
    have hR := Below.refl u.heap.size u
    exact hK _ _ ⟨_, _, _, _, _, _, _, _, _, _, _, _, _, _, _, _, _, _, _, _, _, rfl, hk.trans (hR.mono hk.size), fun h => (fun g => (by obtain ⟨B, e, h2⟩ := g; exact ⟨B, e, own_below hR h2⟩)) (g0 (by simpa using h)), fun h => g1 (by simpa using h), fun h => g2 (by simpa using h), fun h => (fun g => (by obtain ⟨B, e, h2⟩ := g; exact ⟨B, e, own_below hR h2⟩)) (g3 (by simpa using h)), fun h => g4 (by simpa using h), fun h => g5 (by simpa using h), fun h => g6 (by simpa using h), fun h => g7 (by simpa using h), fun h => g8 (by simpa using h), fun h => g9 (by simpa using h), fun h => g10 (by simpa using h), fun h => g11 (by simpa using h), fun _ => rfl, fun h => g13 (by simpa using h), fun h => g14 (by simpa using h), fun h => g15 (by simpa using h), fun h => g16 (by simpa using h), fun h => g17 (by simpa using h), fun h => g18 (by simpa using h), fun h => g19 (by simpa using h), fun h => g20 (by simpa using h)⟩
  case o1_13 =>
    rintro b ac u hbl hbi hcl he ⟨t3, t6, t7, t8, t9, t10, t11, t12, t13, t14, t15, t16, t17, t18, t19, t20, t21, t22, t23, t24, t25, rfl, hk, g0, g1, g2, g3, g4, g5, g6, g7, g8, g9, g10, g11, g12, g13, g14, g15, g16, g17, g18, g19, g20⟩ K hK
    have p12 : b[12]? = some true := by simp [Region.binds] at he; simp [he]
    obtain rfl := g12 p12
    clear he
    go_simp
    refine (H3.out _).mono ?_
    rintro e u' ⟨rfl, hR⟩
    go_simp
    exact hK _ _ ⟨_, _, _, _, _, _, _, _, _, _, _, _, _, _, _, _, _, _, _, _, _, rfl, hk.trans (hR.mono hk.size), fun h => (fun g => (by obtain ⟨B, e, h2⟩ := g; exact ⟨B, e, own_below hR h2⟩)) (g0 (by simpa using h)), fun h => g1 (by simpa using h), fun h => g2 (by simpa using h), fun h => (fun g => (by obtain ⟨B, e, h2⟩ := g; exact ⟨B, e, own_below hR h2⟩)) (g3 (by simpa using h)), fun h => g4 (by simpa using h), fun h => g5 (by simpa using h), fun h => g6 (by simpa using h), fun h => g7 (by simpa using h), fun h => g8 (by simpa using h), fun h => g9 (by simpa using h), fun h => g10 (by simpa using h), fun h => g11 (by simpa using h), fun h => g12 (by simpa using h), fun _ => rfl, fun h => g14 (by simpa using h), fun h => g15 (by simpa using h), fun h => g16 (by simpa using h), fun h => g17 (by simpa using h), fun h => g18 (by simpa using h), fun h => g19 (by simpa using h), fun h => g20 (by simpa using h)⟩
  case o1_14 =>
    rintro b ac u hbl hbi hcl he ⟨t3, t6, t7, t8, t9, t10, t11, t12, t13, t14, t15, t16, t17, t18, t19, t20, t21, t22, t23, t24, t25, rfl, hk, g0, g1, g2, g3, g4, g5, g6, g7, g8, g9, g10, g11, g12, g13, g14, g15, g16, g17, g18, g19, g20⟩ K hK
    have p10 : b[10]? = some true := by simp [Region.binds] at he; simp [he]
    have p13 : b[13]? = some true := by simp [Region.binds] at he; simp [he]
    obtain rfl := g10 p10
    obtain rfl := g13 p13
    clear he
    go_simp
    have hR := Below.refl u.heap.size u
    exact hK _ _ ⟨_, _, _, _, _, _, _, _, _, _, _, _, _, _, _, _, _, _, _, _, _, rfl, hk.trans (hR.mono hk.size), fun h => (fun g => (by obtain ⟨B, e, h2⟩ := g; exact ⟨B, e, own_below hR h2⟩)) (g0 (by simpa using h)), fun h => g1 (by simpa using h), fun h => g2 (by simpa using h), fun h => (fun g => (by obtain ⟨B, e, h2⟩ := g; exact ⟨B, e, own_below hR h2⟩)) (g3 (by simpa using h)), fun h => g4 (by simpa using h), fun h => g5 (by simpa using h), fun h => g6 (by simpa using h), fun h => g7 (by simpa using h), fun h => g8 (by simpa using h), fun h => g9 (by simpa using h), fun h => g10 (by simpa using h), fun h => g11 (by simpa using h), fun h => g12 (by simpa using h), fun h => g13 (by simpa using h), fun _ => rfl, fun h => g15 (by simpa using h), fun h => g16 (by simpa using h), fun h => g17 (by simpa using h), fun h => g18 (by simpa using h), fun h => g19 (by simpa using h), fun h => g20 (by simpa using h)⟩
  case o1_15 =>
    rintro b ac u hbl hbi hcl he ⟨t3, t6, t7, t8, t9, t10, t11, t12, t13, t14, t15, t16, t17, t18, t19, t20, t21, t22, t23, t24, t25, rfl, hk, g0, g1, g2, g3, g4, g5, g6, g7, g8, g9, g10, g11, g12, g13, g14, g15, g16, g17, g18, g19, g20⟩ K hK
    have p14 : b[14]? = some true := by simp [Region.binds] at he; simp [he]
    obtain rfl := g14 p14
    clear he
    go_simp
    have hR := Below.refl u.heap.size u
    exact hK _ _ ⟨_, _, _, _, _, _, _, _, _, _, _, _, _, _, _, _, _, _, _, _, _, rfl, hk.trans (hR.mono hk.size), fun h => (fun g => (by obtain ⟨B, e, h2⟩ := g; exact ⟨B, e, own_below hR h2⟩)) (g0 (by simpa using h)), fun h => g1 (by simpa using h), fun h => g2 (by simpa using h), fun h => (fun g => (by obtain ⟨B, e, h2⟩ := g; exact ⟨B, e, own_below hR h2⟩)) (g3 (by simpa using h)), fun h => g4 (by simpa using h), fun h => g5 (by simpa using h), fun h => g6 (by simpa using h), fun h => g7 (by simpa using h), fun h => g8 (by simpa using h), fun h => g9 (by simpa using h), fun h => g10 (by simpa using h), fun h => g11 (by simpa using h), fun h => g12 (by simpa using h), fun h => g13 (by simpa using h), fun h => g14 (by simpa using h), fun _ => rfl, fun h => g16 (by simpa using h), fun h => g17 (by simpa using h), fun h => g18 (by simpa using h), fun h => g19 (by simpa using h), fun h => g20 (by simpa using h)⟩
  case o1_16 =>
    rintro b ac u hbl hbi hcl he ⟨t3, t6, t7, t8, t9, t10, t11, t12, t13, t14, t15, t16, t17, t18, t19, t20, t21, t22, t23, t24, t25, rfl, hk, g0, g1, g2, g3, g4, g5, g6, g7, g8, g9, g10, g11, g12, g13, g14, g15, g16, g17, g18, g19, g20⟩ K hK
    clear he
    go_simp
    have hR := Below.refl u.heap.size u
    exact hK _ _ ⟨_, _, _, _, _, _, _, _, _, _, _, _, _, _, _, _, _, _, _, _, _, rfl, hk.trans (hR.mono hk.size), fun h => (fun g => (by obtain ⟨B, e, h2⟩ := g; exact ⟨B, e, own_below hR h2⟩)) (g0 (by simpa using h)), fun h => g1 (by simpa using h), fun h => g2 (by simpa using h), fun h => (fun g => (by obtain ⟨B, e, h2⟩ := g; exact ⟨B, e, own_below hR h2⟩)) (g3 (by simpa using h)), fun h => g4 (by simpa using h), fun h => g5 (by simpa using h), fun h => g6 (by simpa using h), fun h => g7 (by simpa using h), fun h => g8 (by simpa using h), fun h => g9 (by simpa using h), fun h => g10 (by simpa using h), fun h => g11 (by simpa using h), fun h => g12 (by simpa using h), fun h => g13 (by simpa using h), fun h => g14 (by simpa using h), fun h => g15 (by simpa using h), fun _ => rfl, fun h => g17 (by simpa using h), fun h => g18 (by simpa using h), fun h => g19 (by simpa using h), fun h => g20 (by simpa using h)⟩
  case o1_17 =>
    rintro b ac u hbl hbi hcl he ⟨t3, t6, t7, t8, t9, t10, t11, t12, t13, t14, t15, t16, t17, t18, t19, t20, t21, t22, t23, t24, t25, rfl, hk, g0, g1, g2, g3, g4, g5, g6, g7, g8, g9, g10, g11, g12, g13, g14, g15, g16, g17, g18, g19, g20⟩ K hK
    have p16 : b[16]? = some true := by simp [Region.binds] at he; simp [he]
    obtain rfl := g16 p16
    clear he
    have cT := (own_cells (own_below hk hA)).1
    have fT := (own_cells (own_below hk hA)).2
    go_simp
    have hR := Below.refl u.heap.size u
    exact hK _ _ ⟨_, _, _, _, _, _, _, _, _, _, _, _, _, _, _, _, _, _, _, _, _, rfl, hk.trans (hR.mono hk.size), fun h => (fun g => (by obtain ⟨B, e, h2⟩ := g; exact ⟨B, e, own_below hR h2⟩)) (g0 (by simpa using h)), fun h => g1 (by simpa using h), fun h => g2 (by simpa using h), fun h => (fun g => (by obtain ⟨B, e, h2⟩ := g; exact ⟨B, e, own_below hR h2⟩)) (g3 (by simpa using h)), fun h => g4 (by simpa using h), fun h => g5 (by simpa using h), fun h => g6 (by simpa using h), fun h => g7 (by simpa using h), fun h => g8 (by simpa using h), fun h => g9 (by simpa using h), fun h => g10 (by simpa using h), fun h => g11 (by simpa using h), fun h => g12 (by simpa using h), fun h => g13 (by simpa using h), fun h => g14 (by simpa using h), fun h => g15 (by simpa using h), fun h => g16 (by simpa using h), fun _ => rfl, fun h => g18 (by simpa using h), fun h => g19 (by simpa using h), fun h => g20 (by simpa using h)⟩
  case o1_18 =>
    rintro b ac u hbl hbi hcl he ⟨t3, t6, t7, t8, t9, t10, t11, t12, t13, t14, t15, t16, t17, t18, t19, t20, t21, t22, t23, t24, t25, rfl, hk, g0, g1, g2, g3, g4, g5, g6, g7, g8, g9, g10, g11, g12, g13, g14, g15, g16, g17, g18, g19, g20⟩ K hK
    have p17 : b[17]? = some true := by simp [Region.binds] at he; simp [he]
    obtain rfl := g17 p17
    clear he
    go_simp
    refine (H4.out _).mono ?_
    rintro e u' ⟨rfl, hR⟩
    go_simp
    exact hK _ _ ⟨_, _, _, _, _, _, _, _, _, _, _, _, _, _, _, _, _, _, _, _, _, rfl, hk.trans (hR.mono hk.size), fun h => (fun g => (by obtain ⟨B, e, h2⟩ := g; exact ⟨B, e, own_below hR h2⟩)) (g0 (by simpa using h)), fun h => g1 (by simpa using h), fun h => g2 (by simpa using h), fun h => (fun g => (by obtain ⟨B, e, h2⟩ := g; exact ⟨B, e, own_below hR h2⟩)) (g3 (by simpa using h)), fun h => g4 (by simpa using h), fun h => g5 (by simpa using h), fun h => g6 (by simpa using h), fun h => g7 (by simpa using h), fun h => g8 (by simpa using h), fun h => g9 (by simpa using h), fun h => g10 (by simpa using h), fun h => g11 (by simpa using h), fun h => g12 (by simpa using h), fun h => g13 (by simpa using h), fun h => g14 (by simpa using h), fun h => g15 (by simpa using h), fun h => g16 (by simpa using h), fun h => g17 (by simpa using h), fun _ => rfl, fun h => g19 (by simpa using h), fun h => g20 (by simpa using h)⟩
  case o1_19 =>
    rintro b ac u hbl hbi hcl he ⟨t3, t6, t7, t8, t9, t10, t11, t12, t13, t14, t15, t16, t17, t18, t19, t20, t21, t22, t23, t24, t25, rfl, hk, g0, g1, g2, g3, g4, g5, g6, g7, g8, g9, g10, g11, g12, g13, g14, g15, g16, g17, g18, g19, g20⟩ K hK
    have p15 : b[15]? = some true := by simp [Region.binds] at he; simp [he]
    have p18 : b[18]? = some true := by simp [Region.binds] at he; simp [he]
    obtain rfl := g15 p15
    obtain rfl := g18 p18
    clear he
    go_simp
    have hR := Below.refl u.heap.size u
    exact hK _ _ ⟨_, _, _, _, _, _, _, _, _, _, _, _, _, _, _, _, _, _, _, _, _, rfl, hk.trans (hR.mono hk.size), fun h => (fun g => (by obtain ⟨B, e, h2⟩ := g; exact ⟨B, e, own_below hR h2⟩)) (g0 (by simpa using h)), fun h => g1 (by simpa using h), fun h => g2 (by simpa using h), fun h => (fun g => (by obtain ⟨B, e, h2⟩ := g; exact ⟨B, e, own_below hR h2⟩)) (g3 (by simpa using h)), fun h => g4 (by simpa using h), fun h => g5 (by simpa using h), fun h => g6 (by simpa using h), fun h => g7 (by simpa using h), fun h => g8 (by simpa using h), fun h => g9 (by simpa using h), fun h => g10 (by simpa using h), fun h => g11 (by simpa using h), fun h => g12 (by simpa using h), fun h => g13 (by simpa using h), fun h => g14 (by simpa using h), fun h => g15 (by simpa using h), fun h => g16 (by simpa using h), fun h => g17 (by simpa using h), fun h => g18 (by simpa using h), fun _ => rfl, fun h => g20 (by simpa using h)⟩
  case o1_20 =>
    rintro b ac u hbl hbi hcl he ⟨t3, t6, t7, t8, t9, t10, t11, t12, t13, t14, t15, t16, t17, t18, t19, t20, t21, t22, t23, t24, t25, rfl, hk, g0, g1, g2, g3, g4, g5, g6, g7, g8, g9, g10, g11, g12, g13, g14, g15, g16, g17, g18, g19, g20⟩ K hK
    have p19 : b[19]? = some true := by simp [Region.binds] at he; simp [he]
    obtain rfl := g19 p19
    clear he
    go_simp
    have hR := Below.refl u.heap.size u
    exact hK _ _ ⟨_, _, _, _, _, _, _, _, _, _, _, _, _, _, _, _, _, _, _, _, _, rfl, hk.trans (hR.mono hk.size), fun h => (fun g => (by obtain ⟨B, e, h2⟩ := g; exact ⟨B, e, own_below hR h2⟩)) (g0 (by simpa using h)), fun h => g1 (by simpa using h), fun h => g2 (by simpa using h), fun h => (fun g => (by obtain ⟨B, e, h2⟩ := g; exact ⟨B, e, own_below hR h2⟩)) (g3 (by simpa using h)), fun h => g4 (by simpa using h), fun h => g5 (by simpa using h), fun h => g6 (by simpa using h), fun h => g7 (by simpa using h), fun h => g8 (by simpa using h), fun h => g9 (by simpa using h), fun h => g10 (by simpa using h), fun h => g11 (by simpa using h), fun h => g12 (by simpa using h), fun h => g13 (by simpa using h), fun h => g14 (by simpa using h), fun h => g15 (by simpa using h), fun h => g16 (by simpa using h), fun h => g17 (by simpa using h), fun h => g18 (by simpa using h), fun h => g19 (by simpa using h), fun _ => rfl⟩
  rintro ac u ⟨t3, t6, t7, t8, t9, t10, t11, t12, t13, t14, t15, t16, t17, t18, t19, t20, t21, t22, t23, t24, t25, rfl, hk, g0, g1, g2, g3, g4, g5, g6, g7, g8, g9, g10, g11, g12, g13, g14, g15, g16, g17, g18, g19, g20⟩
  replace g0 := g0 (by simp)
  replace g1 := g1 (by simp)
  replace g2 := g2 (by simp)
  replace g3 := g3 (by simp)
  replace g4 := g4 (by simp)
  replace g5 := g5 (by simp)
  replace g6 := g6 (by simp)
  replace g7 := g7 (by simp)
  replace g8 := g8 (by simp)
  replace g9 := g9 (by simp)
  replace g10 := g10 (by simp)
  replace g11 := g11 (by simp)
  replace g12 := g12 (by simp)
  replace g13 := g13 (by simp)
  replace g14 := g14 (by simp)
  replace g15 := g15 (by simp)
  replace g16 := g16 (by simp)
  replace g17 := g17 (by simp)
  replace g18 := g18 (by simp)
  replace g19 := g19 (by simp)
  replace g20 := g20 (by simp)
  obtain rfl := g20
  clear g0 g1 g2 g3 g4 g5 g6 g7 g8 g9 g10 g11 g12 g13 g14 g15 g16 g17 g18 g19
  rw [HP0.out]
  replace hA := own_below hk hA
  replace tt := tt.trans (hk.mono tt.size)
  clear hk H2 H3 H4 q1 q2 q3 q4 q5 q6 z1 z2 z3 z4
  obtain ⟨cA, fA⟩ := own_cells hA
  go_wp2_with fail
  go_loopw [3, 4] (fun sv iv wr => ∃ q : Nat, iv = .int .i64 (q : Int) ∧ q ≤ n ∧ Below w.heap.size w wr ∧ wr.heap[w.heap.size]? = some (.cells #[.int .i64 (kk : Int), .int .i64 s, .int .i64 v, .int .i64 ve, .int .i64 nu, .slice sa n sc, .slice qa m qc, .int .i64 tg] 36 (0, 0)) ∧ ∃ L : List UInt8, sv = .string (txt L) ∧ L.length ≤ 31 + 9 * q ∧ Hid (L = p0 ++ Lib.joinTail [32] ((t.slots.map rtTxt).take q))) (fun _ i _ => ((n : Int) - intOf i).toNat)
  case atStart => exact ⟨0, rfl, by omega, tt, hA, p0, rfl, by omega, hid (by simp [Lib.joinTail])⟩
  case round =>
    clear tt hA cA fA
    obtain ⟨q, rfl, hqn, tt, hA, L, rfl, hLl, HL⟩ := hrel
    obtain ⟨cA, fA⟩ := own_cells hA
    have z1 : (txt L).size = L.length := txt_size L
    by_cases hq : q < n
    · obtain ⟨b, off, x, rfl, hx, hlt, hc⟩ := HR.out.at (k := q) (by rw [← EN.out]; exact hq)
      have HX := hid hx
      obtain ⟨x0, x1, x2, x3, x4⟩ := hc.below tt hlt
      clear hc hx
      have e2 : txt L ++ ⟨#[32]⟩ ++ txt (rgtTxt x.t x.v x.r x.w x.k) = txt (L ++ 32 :: rtTxt x) := by
        show txt L ++ txt [32] ++ txt (rtTxt x) = _
        rw [txt_append, txt_append]
        simp
      have z2 : (txt (rgtTxt x.t x.v x.r x.w x.k)).size ≤ 8 := by rw [txt_size]; exact rtTxt_len x
      have q1 : ¬ 9223372036854775807 < (txt L).size + 1 := by omega
      have q2 : ¬ 9223372036854775807 < (txt L).size + 1 + (txt (rgtTxt x.t x.v x.r x.w x.k)).size := by omega
      have E2 := hid e2
      have e1 : L ++ 32 :: rtTxt x = p0 ++ Lib.joinTail [32] ((t.slots.map rtTxt).take (q + 1)) := by
        rw [HL.out, List.take_add_one, List.getElem?_map, HX.out, jt_append]; simp [Lib.joinTail]
      have E1 := hid e1
      have hl2 : (L ++ 32 :: rtTxt x).length ≤ 31 + 9 * (q + 1) := by
        have := rtTxt_len x
        simp; omega
      have CR := hid (fun u => srightText_any x.t x.v x.r x.w x.k u)
      clear e2 e1 z2
      generalize L ++ 32 :: rtTxt x = L2 at *
      generalize txt (rgtTxt x.t x.v x.r x.w x.k) = RX at *
      generalize txt L = TL at *
      go_wp2_with fail
      refine (CR.out _).mono ?_
      rintro e w5 ⟨rfl, hb⟩
      clear x0 x1 x2 x3 x4 cA fA
      replace tt := tt.trans (hb.mono tt.size)
      replace hA := own_below hb hA
      clear hb
      go_wp2_with fail
      go_roundw
      case rel => exact ⟨q + 1, by go_num, by omega, tt, hA, L2, by rw [E2.out], hl2, E1⟩
      case measure => simp [intOf]; omega
    · obtain rfl : q = n := by omega
      replace HL : Hid (L = p0 ++ Lib.joinTail [32] (t.slots.map rtTxt)) := hid (by have := HL.out; rwa [List.take_of_length_le (by rw [List.length_map, EN.out]; exact Nat.le_refl _)] at this)
      go_wp2_with fail
      go_loopw [3, 5] (fun sv iv wr => ∃ p : Nat, iv = .int .i64 (p : Int) ∧ p ≤ m ∧ Below w.heap.size w wr ∧ wr.heap[w.heap.size]? = some (.cells #[.int .i64 (kk : Int), .int .i64 s, .int .i64 v, .int .i64 ve, .int .i64 nu, .slice sa q sc, .slice qa m qc, .int .i64 tg] 36 (0, 0)) ∧ ∃ L : List UInt8, sv = .string (txt L) ∧ L.length ≤ 31 + 9 * q + 9 * p ∧ Hid (L = p0 ++ Lib.joinTail [32] (t.slots.map rtTxt) ++ Lib.joinTail [32] ((t.queue.map quW).take p))) (fun _ i _ => ((m : Int) - intOf i).toNat)
      case atStart => exact ⟨0, rfl, by omega, tt, hA, L, rfl, by omega, hid (by rw [HL.out]; simp [Lib.joinTail])⟩
      case round =>
        clear tt hA cA fA z1
        obtain ⟨p, rfl, hpm, tt, hA, L, rfl, hLl, HL⟩ := hrel
        obtain ⟨cA, fA⟩ := own_cells hA
        have z1 : (txt L).size = L.length := txt_size L
        by_cases hp : p < m
        · obtain ⟨b, off, x, rfl, hx, hlt, hc⟩ := HQ.out.at (k := p) (by rw [← EM.out]; exact hp)
          have HX := hid hx
          have hxb := HQB.out x (List.mem_of_getElem? hx)
          have x0 := (tt.cell (p := ⟨b, off + p, none⟩) hlt).trans hc
          clear hc hx
          have e2 : txt L ++ ⟨#[32, 60]⟩ ++ txt (decI x) = txt (L ++ 32 :: quW x) := by
            show txt L ++ txt [32, 60] ++ txt (decI x) = _
            rw [txt_append, txt_append]
            simp [quW]
          have z2 : (txt (decI x)).size ≤ 3 := by rw [txt_size]; exact decI_len x
          have q1 : ¬ 9223372036854775807 < (txt L).size + 2 := by omega
          have q2 : ¬ 9223372036854775807 < (txt L).size + 2 + (txt (decI x)).size := by omega
          have E2 := hid e2
          have e1 : L ++ 32 :: quW x = p0 ++ Lib.joinTail [32] (t.slots.map rtTxt) ++ Lib.joinTail [32] ((t.queue.map quW).take (p + 1)) := by
            rw [HL.out, List.take_add_one, List.getElem?_map, HX.out, jt_append]; simp [Lib.joinTail]
          have E1 := hid e1
          have hl2 : (L ++ 32 :: quW x).length ≤ 31 + 9 * q + 9 * (p + 1) := by
            have := decI_len x
            simp [quW]; omega
          have CR := hid (fun u => l6DecI_any x (by omega) (by omega) u)
          clear e2 e1 z2
          generalize L ++ 32 :: quW x = L2 at *
          generalize txt (decI x) = RX at *
          generalize txt L = TL at *
          go_wp2_with fail
          refine (CR.out _).mono ?_
          rintro e w5 ⟨rfl, hb⟩
          clear x0 cA fA
          replace tt := tt.trans (hb.mono tt.size)
          replace hA := own_below hb hA
          clear hb
          go_wp2_with fail
          go_roundw
          case rel => exact ⟨p + 1, by go_num, by omega, tt, hA, L2, by rw [E2.out], hl2, E1⟩
          case measure => simp [intOf]; omega
        · obtain rfl : p = m := by omega
          replace HL : Hid (L = p0 ++ Lib.joinTail [32] (t.slots.map rtTxt) ++ Lib.joinTail [32] (t.queue.map quW)) := hid (by have := HL.out; rwa [List.take_of_length_le (by rw [List.length_map, EM.out]; exact Nat.le_refl _)] at this)
          cases e5 : ((kk : Int) == 5)
          case false =>
            have hE : txt L ++ ⟨#[10]⟩ = txt (l3Th t) := by
              have := HGW.out
              rw [if_neg (by simpa using e5)] at this
              rw [HFIN.out, this, ← HL.out]
              show txt L ++ txt [10] = _
              rw [txt_append]
              simp [Lib.joinTail]
            have HE := hid hE
            clear hE
            have q1 : ¬ 9223372036854775807 < (txt L).size + 1 := by omega
            generalize txt L = TL at *
            go_wp2_with fail
            go_ret
            exact ⟨congrArg (fun s => Ending.returned (.string s)) HE.out, tt⟩
          case true =>
            have hE : txt L ++ ⟨#[32, 62]⟩ ++ txt (decI tg) ++ ⟨#[10]⟩ = txt (l3Th t) := by
              have := HGW.out
              rw [if_pos (by simpa using e5)] at this
              rw [HFIN.out, this, ← HL.out]
              show txt L ++ txt [32, 62] ++ txt (decI tg) ++ txt [10] = _
              rw [txt_append, txt_append, txt_append]
              simp [Lib.joinTail]
            have HE := hid hE
            have z2 : (txt (decI tg)).size ≤ 3 := by rw [txt_size]; exact decI_len tg
            have q1 : ¬ 9223372036854775807 < (txt L).size + 2 := by omega
            have q2 : ¬ 9223372036854775807 < (txt L).size + 2 + (txt (decI tg)).size := by omega
            have q3 : ¬ 9223372036854775807 < (txt L).size + 2 + (txt (decI tg)).size + 1 := by omega
            have CR := hid (fun u => l6DecI_any tg (by omega) (by omega) u)
            clear hE z2
            generalize txt (decI tg) = RX at *
            generalize txt L = TL at *
            go_wp2_with fail
            refine (CR.out _).mono ?_
            rintro e w5 ⟨rfl, hb⟩
            clear cA fA
            replace tt := tt.trans (hb.mono tt.size)
            go_wp2_with fail
            go_ret
            exact ⟨congrArg (fun s => Ending.returned (.string s)) HE.out, tt⟩
end Go.Proofs.YtcgmnpppdoadhaaDoor
