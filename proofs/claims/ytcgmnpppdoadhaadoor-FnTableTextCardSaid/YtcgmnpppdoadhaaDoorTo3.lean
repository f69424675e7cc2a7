/- The contract of the copy that the exact laws make of a thing. No condition but where it lies and that it is no longer than the laws ask. -/
import Derived.Test.YtcgmnpppdoadhaaDoorTo2
import Derived.Deep.Cut
namespace Go.Proofs.YtcgmnpppdoadhaaDoor
set_option maxRecDepth 100000
open Go.RowKit
set_option linter.unusedVariables false
set_option linter.unusedSimpArgs false

theorem RowR.setCell_ne {w : World} {b off : Nat} {rs : List Rt} (h : RowR w (some ⟨b, off, none⟩) rs) {p : Addr} (hp : p.block ≠ b) (v : Value) : RowR (w.setCell p v) (some ⟨b, off, none⟩) rs := by
  rcases h with h | ⟨b', off', h1, h2, hl, h3⟩
  · exact .inl h
  · cases h1
    have hc : ∀ o, (w.setCell p v).cell? ⟨b, o, none⟩ = w.cell? ⟨b, o, none⟩ := fun o => World.cell?_of_block (w := w) (Below.heap_setCell _ _ _ _ (Ne.symm hp))
    refine .inr ⟨b, off, rfl, by simpa using h2, hl, fun i x hx => ?_⟩
    obtain ⟨q0, q1, q2, q3, q4⟩ := h3 i x hx
    exact ⟨(hc _).trans q0, (hc _).trans q1, (hc _).trans q2, (hc _).trans q3, (hc _).trans q4⟩
theorem RowI.setCell_ne {w : World} {b off : Nat} {zs : List Int} (h : RowI w (some ⟨b, off, none⟩) zs) {p : Addr} (hp : p.block ≠ b) (v : Value) : RowI (w.setCell p v) (some ⟨b, off, none⟩) zs := by
  rcases h with h | ⟨b', off', h1, h2, hl, h3⟩
  · exact .inl h
  · cases h1
    have hc : ∀ o, (w.setCell p v).cell? ⟨b, o, none⟩ = w.cell? ⟨b, o, none⟩ := fun o => World.cell?_of_block (w := w) (Below.heap_setCell _ _ _ _ (Ne.symm hp))
    exact .inr ⟨b, off, rfl, by simpa using h2, hl, fun i x hx => (hc _).trans (h3 i x hx)⟩
set_option maxHeartbeats 8000000 in
theorem toThing_any (kind sec vou vers num tg : Int) (sa qa : Option Addr) (rs : List Rt) (zs : List Int) (sc qc : Nat) (w : World) (hs : RowR w sa rs) (hq : RowI w qa zs) (hm : rs.length ≤ 1048576) (hn : zs.length ≤ 1048576) :
    Calls Tryd.prog 37 #[.agg #[.int .i64 kind, .int .i64 sec, .int .i64 vou, .int .i64 vers, .int .i64 num, .slice sa rs.length sc, .slice qa zs.length qc, .int .i64 tg]] w fun e w' =>
      ∃ B C, e = .returned (.agg #[.int .i64 kind, .int .i64 sec, .int .i64 vou, .int .i64 vers, .int .i64 num, .slice (some ⟨B, 0, none⟩) rs.length rs.length, .slice (some ⟨C, 0, none⟩) zs.length zs.length, .int .i64 tg]) ∧
        w.heap.size ≤ B ∧ w.heap.size ≤ C ∧ RowR w' (some ⟨B, 0, none⟩) rs ∧ RowI w' (some ⟨C, 0, none⟩) zs ∧ Below w.heap.size w w' := by
  have tt : Below w.heap.size w w := Below.refl _ _
  have C1 := hid (fun u (hu : Below w.heap.size w u) => toRightS_any sa sc rs u (hs.below hu) hm)
  have C2 := hid (fun u (hu : Below w.heap.size w u) => toIntS_any qa qc zs u (hq.below hu) hn)
  clear hs hq hm hn
  obtain ⟨m, em⟩ : ∃ m, m = rs.length := ⟨_, rfl⟩
  obtain ⟨n, en⟩ : ∃ n, n = zs.length := ⟨_, rfl⟩
  rw [← em] at C1 ⊢
  rw [← en] at C2 ⊢
  clear em en
  have hA := own_alloc (own_alloc (own_new w (.cells #[.int .i64 kind, .int .i64 sec, .int .i64 vou, .int .i64 vers, .int .i64 num, .slice sa m sc, .slice qa n qc, .int .i64 tg] 69)) (.cells #[.int .i64 0, .int .i64 0, .int .i64 0, .int .i64 0, .int .i64 0, .slice none 0 0, .slice none 0 0, .int .i64 0] 36)) (.cells #[.int .i64 kind, .int .i64 0, .int .i64 0, .int .i64 0, .int .i64 0, .slice none 0 0, .slice none 0 0, .int .i64 0] 36)
  have hT := own_alloc (own_new (w.alloc (.cells #[.int .i64 kind, .int .i64 sec, .int .i64 vou, .int .i64 vers, .int .i64 num, .slice sa m sc, .slice qa n qc, .int .i64 tg] 69)) (.cells #[.int .i64 0, .int .i64 0, .int .i64 0, .int .i64 0, .int .i64 0, .slice none 0 0, .slice none 0 0, .int .i64 0] 36)) (.cells #[.int .i64 kind, .int .i64 0, .int .i64 0, .int .i64 0, .int .i64 0, .slice none 0 0, .slice none 0 0, .int .i64 0] 36)
  have hX := own_new ((w.alloc (.cells #[.int .i64 kind, .int .i64 sec, .int .i64 vou, .int .i64 vers, .int .i64 num, .slice sa m sc, .slice qa n qc, .int .i64 tg] 69)).alloc (.cells #[.int .i64 0, .int .i64 0, .int .i64 0, .int .i64 0, .int .i64 0, .slice none 0 0, .slice none 0 0, .int .i64 0] 36)) (.cells #[.int .i64 kind, .int .i64 0, .int .i64 0, .int .i64 0, .int .i64 0, .slice none 0 0, .slice none 0 0, .int .i64 0] 36)
  simp only [World.size_alloc] at hA hT hX
  go_enter Tryd.func37, Tryd.ntmps37
  go_wp2_with fail
  refine (toLabel_any _ _ _).mono ?_
  rintro e w' ⟨rfl, hb⟩
  (try clear cc_hA ff_hA); (try clear zz_hA zy_hA)
  (try clear cc_hT ff_hT); (try clear zz_hT zy_hT)
  (try clear cc_hX ff_hX); (try clear zz_hX zy_hX)
  have zt := tt.size
  replace tt : Below w.heap.size w w' := by (refine Below.trans ?_ (hb.mono ?_)); (all_goals (repeat (first | with_reducible exact tt | (with_reducible refine Below.setCell ?_ ?_ _) | (with_reducible refine Below.alloc ?_ ?_ _) | with_reducible refine Below.drew ?_)); (all_goals (first | omega | (simp <;> omega))))
  clear zt
  replace hA := own_below hb (by repeat (first | exact hA | apply own_alloc))
  replace hT := own_below hb (by repeat (first | exact hT | apply own_alloc))
  replace hX := own_below hb (by repeat (first | exact hX | apply own_alloc))
  obtain ⟨cc_hA, ff_hA⟩ := own_cells hA; have zz_hA := own_lt hA; have zy_hA := Nat.lt_add_right 1 (own_lt hA)
  obtain ⟨cc_hT, ff_hT⟩ := own_cells hT; have zz_hT := own_lt hT; have zy_hT := Nat.lt_add_right 1 (own_lt hT)
  obtain ⟨cc_hX, ff_hX⟩ := own_cells hX; have zz_hX := own_lt hX; have zy_hX := Nat.lt_add_right 1 (own_lt hX)
  clear hb
  have zt := tt.size
  have hX' := own_set (own_set (own_set (own_set hX 1 (.int .i64 sec)) 2 (.int .i64 vou)) 3 (.int .i64 vers)) 4 (.int .i64 num)
  have hA' := own_set_ne (own_set_ne (own_set_ne (own_set_ne hA (p := ⟨w.heap.size + 1 + 1, 1, none⟩) (by simp; omega) (.int .i64 sec)) (p := ⟨w.heap.size + 1 + 1, 2, none⟩) (by simp; omega) (.int .i64 vou)) (p := ⟨w.heap.size + 1 + 1, 3, none⟩) (by simp; omega) (.int .i64 vers)) (p := ⟨w.heap.size + 1 + 1, 4, none⟩) (by simp; omega) (.int .i64 num)
  have hT' := own_set_ne (own_set_ne (own_set_ne (own_set_ne hT (p := ⟨w.heap.size + 1 + 1, 1, none⟩) (by simp) (.int .i64 sec)) (p := ⟨w.heap.size + 1 + 1, 2, none⟩) (by simp) (.int .i64 vou)) (p := ⟨w.heap.size + 1 + 1, 3, none⟩) (by simp) (.int .i64 vers)) (p := ⟨w.heap.size + 1 + 1, 4, none⟩) (by simp) (.int .i64 num)
  have HX := hid hX'
  have HA := hid hA'
  have HT := hid hT'
  clear hA' hT' hX'
  go_wp2_with fail
  refine (C1.out _ (by (have zt := tt.size); (repeat (first | with_reducible exact tt | (with_reducible refine Below.setCell ?_ ?_ _) | (with_reducible refine Below.alloc ?_ ?_ _) | with_reducible refine Below.drew ?_)); (all_goals (first | omega | (simp <;> omega))))).mono ?_
  rintro e w2 ⟨B, rfl, hB, hR, hb⟩
  have hX2 := own_below hb HX.out
  have hA2 := own_below hb HA.out
  have hT2 := own_below hb HT.out
  replace tt : Below w.heap.size w w2 := Below.trans (by (have zt := tt.size); (repeat (first | with_reducible exact tt | (with_reducible refine Below.setCell ?_ ?_ _) | (with_reducible refine Below.alloc ?_ ?_ _) | with_reducible refine Below.drew ?_)); (all_goals (first | omega | (simp <;> omega)))) (hb.mono (by have := tt.size; simp; omega))
  (try clear cc_hA ff_hA); (try clear zz_hA zy_hA); (try clear cc_hX ff_hX); (try clear zz_hX zy_hX); (try clear cc_hT ff_hT); (try clear zz_hT zy_hT)
  have hBX : w.heap.size + 1 + 1 < B := by have := own_lt hX; simp at hB; omega
  clear hb hB HX HA HT hX hA hT
  obtain ⟨oX, fX⟩ := own_cells hX2
  obtain ⟨oA, fA⟩ := own_cells hA2
  obtain ⟨oT, fT⟩ := own_cells hT2
  have HX := hid (own_set hX2 5 (.slice (some ⟨B, 0, none⟩) m m))
  have HA := hid (own_set_ne hA2 (p := ⟨w.heap.size + 1 + 1, 5, none⟩) (by simp; omega) (.slice (some ⟨B, 0, none⟩) m m))
  have HT := hid (own_set_ne hT2 (p := ⟨w.heap.size + 1 + 1, 5, none⟩) (by simp) (.slice (some ⟨B, 0, none⟩) m m))
  have HR := hid hR
  have HX2 := hid hX2
  clear hX2 hA2 hT2 hR
  go_wp2_with fail
  refine (C2.out _ (by (have zt := tt.size); (repeat (first | with_reducible exact tt | (with_reducible refine Below.setCell ?_ ?_ _) | (with_reducible refine Below.alloc ?_ ?_ _) | with_reducible refine Below.drew ?_)); (all_goals (first | omega | (simp <;> omega))))).mono ?_
  rintro e w3 ⟨C, rfl, hC, hQ, hb⟩
  have hX3 := own_below hb HX.out
  have hA3 := own_below hb HA.out
  have hT3 := own_below hb HT.out
  have hR3 : RowR w3 (some ⟨B, 0, none⟩) rs := (RowR.setCell_ne HR.out (p := ⟨w.heap.size + 1 + 1, 5, none⟩) (by simp; omega) _).below hb
  have zt2 := tt.size
  have hCX : w.heap.size + 1 + 1 < C := by have := own_lt HX2.out; simp at hC; omega
  replace tt : Below w.heap.size w w3 := Below.trans (by (have zt := tt.size); (repeat (first | with_reducible exact tt | (with_reducible refine Below.setCell ?_ ?_ _) | (with_reducible refine Below.alloc ?_ ?_ _) | with_reducible refine Below.drew ?_)); (all_goals (first | omega | (simp <;> omega)))) (hb.mono (by simp; omega))
  clear hb hC HX HA HT HR HX2 oX fX oA fA oT fT
  obtain ⟨oX, fX⟩ := own_cells hX3
  obtain ⟨oA, fA⟩ := own_cells hA3
  obtain ⟨oT, fT⟩ := own_cells hT3
  have HX := hid (own_set (own_set hX3 6 (.slice (some ⟨C, 0, none⟩) n n)) 7 (.int .i64 tg))
  have HT := hid (own_set_ne (own_set_ne hT3 (p := ⟨w.heap.size + 1 + 1, 6, none⟩) (by simp) (.slice (some ⟨C, 0, none⟩) n n)) (p := ⟨w.heap.size + 1 + 1, 7, none⟩) (by simp) (.int .i64 tg))
  have HR := hid ((hR3.setCell_ne (p := ⟨w.heap.size + 1 + 1, 6, none⟩) (by simp; omega) (.slice (some ⟨C, 0, none⟩) n n)).setCell_ne (p := ⟨w.heap.size + 1 + 1, 7, none⟩) (by simp; omega) (.int .i64 tg))
  have HQ := hid ((hQ.setCell_ne (p := ⟨w.heap.size + 1 + 1, 6, none⟩) (by simp; omega) (.slice (some ⟨C, 0, none⟩) n n)).setCell_ne (p := ⟨w.heap.size + 1 + 1, 7, none⟩) (by simp; omega) (.int .i64 tg))
  clear hX3 hA3 hT3 hR3 hQ
  go_upto_region 9 with fail
  clear oX fX oA fA oT fT
  refine named (p := fun W => Code.wp _ _ _ _ W) _ ?_
  intro W hW
  have hX := own_eq hW HX.out
  have hT := own_eq hW HT.out
  have hR := hW ▸ HR.out
  have hQ := hW ▸ HQ.out
  have tW : Below w.heap.size w W := by rw [← hW]; exact (by (have zt := tt.size); (repeat (first | with_reducible exact tt | (with_reducible refine Below.setCell ?_ ?_ _) | (with_reducible refine Below.alloc ?_ ?_ _) | with_reducible refine Below.drew ?_)); (all_goals (first | omega | (simp <;> omega))))
  clear HX HT HR HQ hW tt
  obtain ⟨oX, fX⟩ := own_cells hX
  obtain ⟨oT, fT⟩ := own_cells hT
  simp at oX oT
  have hE := own_set (own_set (own_set (own_set (own_set (own_set (own_set (own_set hT 0 (.int .i64 kind)) 1 (.int .i64 sec)) 2 (.int .i64 vou)) 3 (.int .i64 vers)) 4 (.int .i64 num)) 5 (.slice (some ⟨B, 0, none⟩) m m)) 6 (.slice (some ⟨C, 0, none⟩) n n)) 7 (.int .i64 tg)
  go_wp2_with fail
  have zt3 := tW.size
  obtain ⟨ocE, _⟩ := own_cells hE
  simp at ocE
  clear oX fX oT fT hX hT hE
  refine bodyPost_ret (v := .agg #[.int .i64 kind, .int .i64 sec, .int .i64 vou, .int .i64 vers, .int .i64 num, .slice (some ⟨B, 0, none⟩) m m, .slice (some ⟨C, 0, none⟩) n n, .int .i64 tg]) ?_ rfl ?_
  · simp only [results, Tryd.results37]
    go_simp
  · refine ⟨B, C, rfl, by omega, by omega, ?_, ?_, ?_⟩
    · repeat' (first | with_reducible exact hR | refine RowR.setCell_ne ?_ (by simp; omega) _)
    · repeat' (first | with_reducible exact hQ | refine RowI.setCell_ne ?_ (by simp; omega) _)
    · (repeat (first | with_reducible exact tW | (with_reducible refine Below.setCell ?_ ?_ _))); (all_goals (first | omega | (simp <;> omega)))
end Go.Proofs.YtcgmnpppdoadhaaDoor
