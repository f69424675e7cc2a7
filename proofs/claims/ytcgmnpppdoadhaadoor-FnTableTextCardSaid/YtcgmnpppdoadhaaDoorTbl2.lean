/- The contract of the reference's check of a table. No condition but where it lies. -/
import Derived.Test.YtcgmnpppdoadhaaDoorTbl
import Derived.Test.YtcgmnpppdoadhaaDoorThg3
import Derived.Deep.CutRange
namespace Go.Proofs.YtcgmnpppdoadhaaDoor
set_option maxRecDepth 100000
open Go Go.RowKit
set_option linter.unusedVariables false
set_option linter.unusedSimpArgs false

theorem ok_slots {t : Th} (h : t.ok = true) : t.slots.all Rt.ok = true := ((thOk_iff _ _ _ _ _ _ _ _).1 h).2.2.1
theorem ok_tg {t : Th} (h : t.ok = true) (h5 : t.kind = 5) : 1 ≤ t.tg ∧ t.tg ≤ 8 := by
  have := ((thOk_iff _ _ _ _ _ _ _ _).1 h).1
  unfold Lin at this; omega
theorem ok_rt {x : Rt} (h : x.ok = true) : 0 ≤ x.t ∧ x.t ≤ 8 := by
  unfold Rt.ok rgtOk rgtNull inB at h
  simp at h
  omega
set_option maxRecDepth 100000 in
set_option maxHeartbeats 8000000 in
theorem stableOk_any (a : Option Addr) (cap : Nat) (ts : List Th) (w : World) (hT : RowT w a ts) :
    Calls Tryd.prog 11 #[.slice a ts.length cap] w fun e w' => e = .returned (.bool (tblOk ts)) ∧ Below w.heap.size w w' := by
  have tt : Below w.heap.size w w := Below.refl _ _
  have hml := hT.len
  have HT := hid hT
  clear hT
  obtain ⟨m, em⟩ : ∃ m, m = ts.length := ⟨_, rfl⟩
  rw [← em] at hml ⊢
  have EM := hid em
  clear em
  go_enter Tryd.func11, Tryd.ntmps11
  go_wp2_with fail
  go_loopw [3] (fun i wr => ∃ k : Nat, i = .int .i64 k ∧ k ≤ m ∧ Pre (fun t => t.ok && gateB ts t) ts k ∧ (∀ x ∈ rts (ts.take k), fitB ts x = true) ∧ Below w.heap.size w wr)
    (fun i _ => m - (intOf i).toNat)
  case atStart => exact ⟨0, rfl, Nat.zero_le _, Pre.zero _ _, by simp [rts], tt⟩
  case round =>
    clear tt
    obtain ⟨k, rfl, hk, hp, hf, tt⟩ := hrel
    have HP := hid hp
    have HF := hid hf
    clear hp hf
    by_cases hkm : k < m
    · obtain ⟨b, off, t, rfl, hx, hb, h8⟩ := HT.out.at (k := k) (by rw [← EM.out]; exact hkm)
      obtain ⟨kind, sec, vou, vers, num, rs, zs, tg⟩ := t
      obtain ⟨sa, sc, qa, qc, c0, c1, c2, c3, c4, c5, c6, c7, hRw, hQw⟩ := h8
      dsimp only at c0 c1 c2 c3 c4 c5 c6 c7 hRw hQw
      have HC := hid (⟨c0, c5, c7⟩ : _ ∧ _ ∧ _)
      replace c0 := (tt.cell (p := ⟨b, _, none⟩) hb).trans c0
      replace c1 := (tt.cell (p := ⟨b, _, none⟩) hb).trans c1
      replace c2 := (tt.cell (p := ⟨b, _, none⟩) hb).trans c2
      replace c3 := (tt.cell (p := ⟨b, _, none⟩) hb).trans c3
      replace c4 := (tt.cell (p := ⟨b, _, none⟩) hb).trans c4
      replace c5 := (tt.cell (p := ⟨b, _, none⟩) hb).trans c5
      replace c6 := (tt.cell (p := ⟨b, _, none⟩) hb).trans c6
      replace c7 := (tt.cell (p := ⟨b, _, none⟩) hb).trans c7
      have HX := hid hx
      have HR := hid hRw
      have hrl := hRw.len
      have CO := hid (fun (u : World) (hu : Below w.heap.size w u) => sthingOk_any kind sec vou vers num tg sa qa rs sc zs qc u (hRw.below hu) (hQw.below hu))
      clear hx hRw hQw
      obtain ⟨r, er⟩ : ∃ r, r = rs.length := ⟨_, rfl⟩
      obtain ⟨q, eq⟩ : ∃ q, q = zs.length := ⟨_, rfl⟩
      rw [← er] at c5 hrl HC
      rw [← eq] at c6
      rw [← er, ← eq] at CO
      have CC := hid (fun (u : World) (hu : Below w.heap.size w u) => (⟨(hu.cell (p := ⟨b, _, none⟩) hb).trans HC.out.1, (hu.cell (p := ⟨b, _, none⟩) hb).trans HC.out.2.1, (hu.cell (p := ⟨b, _, none⟩) hb).trans HC.out.2.2⟩ : u.cell? ⟨b, off + k * 8, none⟩ = _ ∧ u.cell? ⟨b, off + k * 8 + 5, none⟩ = _ ∧ u.cell? ⟨b, off + k * 8 + 7, none⟩ = _))
      have ER := hid er
      clear er eq
      obtain ⟨ob, eo⟩ : ∃ ob, ob = (⟨kind, sec, vou, vers, num, rs, zs, tg⟩ : Th).ok := ⟨_, rfl⟩
      rw [show thOk kind sec vou vers num rs zs tg = ob from eo.symm] at CO
      have EO := hid eo
      clear eo
      obtain ⟨gb, eg⟩ : ∃ gb, gb = gateB ts ⟨kind, sec, vou, vers, num, rs, zs, tg⟩ := ⟨_, rfl⟩
      have EG := hid eg
      have key : ob = true → (kind == 5) = false ∧ gb = true ∨ (kind == 5) = true ∧ (gb = false ∧ (m : Int) < tg ∨ ∃ (j : Nat) (k2 : Int), tg = j + 1 ∧ j < m ∧ (∀ u, Below w.heap.size w u → u.cell? ⟨b, off + j * 8, none⟩ = some (.int .i64 k2)) ∧ gb = (k2 == 1))   := fun hob => by
        cases e5 : (kind == 5)
        · exact .inl ⟨rfl, by rw [eg]; simp [gateB, e5]⟩
        · right
          refine ⟨rfl, ?_⟩
          have hk5 : kind = 5 := by simpa using e5
          have htg := ok_tg (EO.out.symm.trans hob) hk5
          dsimp only at htg
          by_cases hm : (m : Int) < tg
          · refine .inl ⟨?_, hm⟩
            rw [eg]
            have : inB tg 1 ts.length = false := by rw [← EM.out]; simp [inB]; omega
            simp [gateB, e5, kindAtB, this]
          · right
            obtain ⟨j, rfl⟩ : ∃ j : Nat, tg = j + 1 := ⟨(tg - 1).toNat, by omega⟩
            obtain ⟨b2, off2, t2, hab, hx2, hb2, h82⟩ := HT.out.at (k := j) (by rw [← EM.out]; omega)
            cases hab
            obtain ⟨_, _, _, _, d0, _⟩ := h82
            refine ⟨j, t2.kind, rfl, by omega, fun u hu => (hu.cell (p := ⟨b, off + j * 8, none⟩) hb).trans d0, ?_⟩
            rw [eg]
            have h1 : inB ((j : Int) + 1) 1 ts.length = true := by rw [← EM.out]; simp [inB]; omega
            have h2 : ((j : Int) + 1 - 1).toNat = j := by omega
            simp [gateB, e5, kindAtB, h1, h2, hx2]
      clear eg
      go_upto_region 4 with fail
      go_cut [48] from 6 to 88 (fun v wc => v = .bool (!(ob && gb)) ∧ Below w.heap.size w wc)
      case first =>
        cases ob
        · go_wp2_with (first | (go_at_call 28; refine (CO.out _ tt).mono ?_; rintro e w' ⟨rfl, hb'⟩; replace tt := tt.trans (hb'.mono tt.size); clear hb'; obtain ⟨c0', c5', c7'⟩ := CC.out _ tt))
          go_meet
          exact ⟨rfl, tt⟩
        · rcases key rfl with ⟨e5, rfl⟩ | ⟨e5, (⟨rfl, hm⟩ | ⟨j, k2, rfl, hj, hcj, egb⟩)⟩
          · go_wp2_with (first | (go_at_call 28; refine (CO.out _ tt).mono ?_; rintro e w' ⟨rfl, hb'⟩; replace tt := tt.trans (hb'.mono tt.size); clear hb'; obtain ⟨c0', c5', c7'⟩ := CC.out _ tt))
            go_meet
            exact ⟨rfl, tt⟩
          · go_wp2_with (first | (go_at_call 28; refine (CO.out _ tt).mono ?_; rintro e w' ⟨rfl, hb'⟩; replace tt := tt.trans (hb'.mono tt.size); clear hb'; obtain ⟨c0', c5', c7'⟩ := CC.out _ tt))
            go_meet
            exact ⟨rfl, tt⟩
          · have hwj0 : IntKind.i64.wrap (j : Int) = j := by simp [IntKind.wrap, IntKind.bits, IntKind.signed]; omega
            have hp20 : ¬ (m : Int) < (j : Int) + 1 := by omega
            have cjw := hcj _ tt
            have HE := hid egb
            clear egb
            go_wp2_with (first | (go_at_call 28; refine (CO.out _ tt).mono ?_; rintro e w' ⟨rfl, hb'⟩; replace tt := tt.trans (hb'.mono tt.size); clear hb'; obtain ⟨c0', c5', c7'⟩ := CC.out _ tt; have cjw' := hcj _ tt))
            go_meet
            exact ⟨by rw [HE.out, decide_eq_false (show ¬ (m : Int) < (j : Int) + 1 by omega)]; simp [bne], tt⟩
      case rest =>
        clear tt c0 c1 c2 c3 c4 c5 c6 c7
        obtain ⟨rfl, tt⟩ := hcut
        cases eog : (ob && gb)
        · have HEOG := hid eog
          clear eog
          go_wp2_with fail
          go_ret
          exact ⟨ret_bool (tblOk_no_th HX.out (by rw [← EO.out, ← EG.out]; exact HEOG.out)).symm, tt⟩
        · obtain ⟨rfl, rfl⟩ : ob = true ∧ gb = true := by simpa using eog
          clear eog key
          have c5 := (CC.out _ tt).2.1
          go_wp2_with fail
          go_loopw [4] (fun i w2 => ∃ p : Nat, i = .int .i64 p ∧ p ≤ r ∧ (∀ x ∈ rts (ts.take k) ++ rs.take p, fitB ts x = true) ∧ Below w.heap.size w w2)
            (fun i _ => r - (intOf i).toNat)
          case atStart => exact ⟨0, rfl, Nat.zero_le _, by simpa using HF.out, tt⟩
          case round =>
            clear tt c5
            obtain ⟨p, rfl, hpr, hfp, tt⟩ := hrel
            have c5 := (CC.out _ tt).2.1
            have HFP := hid hfp
            clear hfp
            by_cases hpm : p < r
            · obtain ⟨b5, off5, x, rfl, hx5, hb5, h5⟩ := HR.out.at (k := p) (by rw [← ER.out]; exact hpm)
              have hxok : x.ok = true := List.all_eq_true.1 (ok_slots EO.out.symm) x (List.mem_of_getElem? hx5)
              obtain ⟨x0, x1⟩ := ok_rt hxok
              obtain ⟨d0, d1, d2, d3, d4⟩ := h5.below tt hb5
              have HX5 := hid hx5
              have hmem : x ∈ rts (ts.take k) ++ rs.take (p + 1) := by rw [take_snoc hx5]; simp
              have HM := hid hmem
              clear hx5 h5 hxok hmem
              have hsnoc : ∀ y ∈ rts (ts.take k) ++ rs.take (p + 1), (fitB ts x = true) → fitB ts y = true := fun y hy hfx => by
                rw [take_snoc HX5.out, ← List.append_assoc] at hy
                rcases List.mem_append.1 hy with h | h
                · exact HFP.out y h
                · simp at h; subst h; exact hfx
              have HS := hid hsnoc
              clear hsnoc
              obtain ⟨xt, xv, xr, xw, xk⟩ := x
              dsimp only at d0 d1 d2 d3 d4 x0 x1
              have hX5 := own_new wr (.cells #[.int .i64 xt, .int .i64 xv, .bool xr, .bool xw, .bool xk] 38)
              have t5 : Below w.heap.size w (wr.alloc (.cells #[.int .i64 xt, .int .i64 xv, .bool xr, .bool xw, .bool xk] 38)) := tt.alloc tt.size _
              by_cases hxm : (m : Int) < xt
              · have hft : fitB ts ⟨xt, xv, xr, xw, xk⟩ = false := by
                  have h1 : inB xt 1 ts.length = false := by rw [← EM.out]; simp [inB]; omega
                  have h2 : (xt == 0) = false := by simp; omega
                  simp [fitB, h1, h2]
                have HFT := hid hft
                clear hft
                go_wp2_with fail
                go_quiet (fail)
                go_wp2_with fail
                go_ret
                exact ⟨ret_bool (tblOk_no_rt (ts := ts) (pre := rts (ts.take k) ++ rs.take (p + 1)) (pre_of HX.out) HM.out HFT.out).symm, Below.drewN' t5 _⟩
              · by_cases hx0 : xt = 0
                · have HFT := hid (show fitB ts ⟨xt, xv, xr, xw, xk⟩ = true by simp [fitB, hx0])
                  have hx02 : decide ((m : Int) < xt) = false := decide_eq_false (by omega)
                  have hx03 : decide ((0 : Int) < xt) = false := decide_eq_false (by omega)
                  clear hx0 hxm x0
                  go_wp2_with fail
                  go_region
                  go_wp2_with fail
                  go_roundw
                  case rel => first | exact ⟨p + 1, by go_num, by omega, fun y hy => HS.out y hy HFT.out, t5.drew⟩ | ((repeat apply Exists.intro); exact ⟨⟨p + 1, by go_num, by omega, fun y hy => HS.out y hy HFT.out, t5.drew⟩, rfl⟩)
                  case measure => simp [intOf]; omega
                · obtain ⟨j2, rfl⟩ : ∃ j2 : Nat, xt = j2 + 1 := ⟨(xt - 1).toNat, by omega⟩
                  obtain ⟨b6, off6, t6, hab6, hx6, hb6, h86⟩ := HT.out.at (k := j2) (by rw [← EM.out]; omega)
                  cases hab6
                  obtain ⟨_, _, _, _, _, _, _, d6, _⟩ := h86
                  have TC : ∀ u, Below w.heap.size w u → u.cell? ⟨b, off + j2 * 8 + 3, none⟩ = some (.int .i64 t6.vers) := fun u hu => (hu.cell (p := ⟨b, off + j2 * 8 + 3, none⟩) hb).trans d6
                  have hfit : fitB ts ⟨j2 + 1, xv, xr, xw, xk⟩ = !decide (t6.vers < xv) := by
                    have e3 : ((j2 : Int) + 1 - 1).toNat = j2 := by omega
                    have e4 : inB ((j2 : Int) + 1) 1 ts.length = true := by rw [← EM.out]; simp [inB]; omega
                    have e5' : ((j2 : Int) + 1 == 0) = false := by simp; omega
                    simp only [fitB, e5', e4, e3, hx6, Bool.false_or, Bool.true_and, Option.elim]
                    rw [Bool.eq_iff_iff]; simp
                  have hj2 : j2 < m := by omega
                  have hwj : IntKind.i64.wrap (j2 : Int) = j2 := by simp [IntKind.wrap, IntKind.bits, IntKind.signed]; omega
                  have hp1 : (0 : Int) < (j2 : Int) + 1 := by omega
                  have hp2 : ¬ (m : Int) < (j2 : Int) + 1 := by omega
                  have HFT := hid hfit
                  clear hfit hx6
                  cases ev : decide (t6.vers < xv)
                  · have HV := hid ev
                    have tcw := TC _ t5
                    go_wp2_with fail
                    go_quiet (fail)
                    go_wp2_with fail
                    go_roundw
                    case rel => first | exact ⟨p + 1, by go_num, by omega, fun y hy => HS.out y hy (by rw [HFT.out, HV.out]; rfl), Below.drewN' t5 _⟩ | ((repeat apply Exists.intro); exact ⟨⟨p + 1, by go_num, by omega, fun y hy => HS.out y hy (by rw [HFT.out, HV.out]; rfl), Below.drewN' t5 _⟩, rfl⟩)
                    case measure => simp [intOf]; omega
                  · have HV := hid ev
                    have tcw := TC _ t5
                    go_wp2_with fail
                    go_quiet (fail)
                    go_wp2_with fail
                    go_ret
                    exact ⟨ret_bool (tblOk_no_rt (ts := ts) (pre := rts (ts.take k) ++ rs.take (p + 1)) (pre_of HX.out) HM.out (by rw [HFT.out, HV.out]; rfl)).symm, Below.drewN' t5 _⟩
            · obtain rfl : p = r := by omega
              go_wp2_with fail
              go_roundw
              case rel => first | exact ⟨k + 1, by go_num, by omega, HP.out.succ HX.out (by rw [← EO.out, ← EG.out]; rfl), by rw [rts_take_succ HX.out]; have h := HFP.out; rw [ER.out, List.take_length] at h; exact h, tt⟩ | ((repeat apply Exists.intro); exact ⟨⟨k + 1, by go_num, by omega, HP.out.succ HX.out (by rw [← EO.out, ← EG.out]; rfl), by rw [rts_take_succ HX.out]; have h := HFP.out; rw [ER.out, List.take_length] at h; exact h, tt⟩, rfl⟩)
              case measure => simp [intOf]; omega

    · obtain rfl : k = m := by omega
      obtain ⟨lb, el⟩ : ∃ lb, lb = inB k 1 8 := ⟨_, rfl⟩
      have hfin : lb = tblOk ts := by
        cases hlb : inB k 1 8
        · rw [el, hlb]; exact (tblOk_no_len (EM.out ▸ hlb)).symm
        · rw [el, hlb]
          refine (tblOk_yes (EM.out ▸ hlb) (EM.out ▸ HP.out) ?_).symm
          have h := HF.out
          rw [EM.out, List.take_length] at h
          exact h
      have HFIN := hid hfin
      have CL := hid (fun u => by rw [el]; exact l6In_b k 1 8 u : ∀ u : World, Calls Tryd.prog 29 #[.int .i64 k, .int .i64 1, .int .i64 8] u fun e w' => e = .returned (.bool lb) ∧ Below u.heap.size u w')
      clear hfin el
      go_wp2_with (first | (go_at_call 29; refine (CL.out _).mono ?_; rintro e w' ⟨rfl, hb⟩; skip; have zt := tt.size; (replace tt : Below w.heap.size w w' := by (refine Below.trans ?_ (hb.mono ?_)); (all_goals (repeat (first | with_reducible exact tt | (with_reducible refine Below.setCell ?_ ?_ _) | (with_reducible refine Below.alloc ?_ ?_ _) | with_reducible refine Below.drew ?_)); (all_goals (first | omega | (simp <;> omega))))); clear zt; skip; clear hb))
      go_ret
      exact ⟨ret_bool HFIN.out, tt⟩
end Go.Proofs.YtcgmnpppdoadhaaDoor
