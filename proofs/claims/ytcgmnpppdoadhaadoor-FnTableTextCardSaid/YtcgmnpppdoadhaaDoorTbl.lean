/- The contract of the program's check of a table. No condition but where it lies. -/
import Derived.Test.YtcgmnpppdoadhaaDoorRnd
namespace Go.Proofs.YtcgmnpppdoadhaaDoor
set_option maxRecDepth 100000
open Go Go.RowKit Go.Shelf
set_option linter.unusedVariables false
set_option linter.unusedSimpArgs false
attribute [local go_sem] Oper.semAt_some

def Th.ok (t : Th) : Bool := thOk t.kind t.sec t.vou t.vers t.num t.slots t.queue t.tg
def kindAtB (ts : List Th) (i k : Int) : Bool := inB i 1 ts.length && (ts[(i - 1).toNat]?).elim false (fun t => t.kind == k)
def gateB (ts : List Th) (t : Th) : Bool := !(t.kind == 5) || kindAtB ts t.tg 1
def fitB (ts : List Th) (r : Rt) : Bool := (r.t == 0) || (inB r.t 1 ts.length && (ts[(r.t - 1).toNat]?).elim false (fun t => decide (r.v ≤ t.vers)))
def tblOk (ts : List Th) : Bool := inB ts.length 1 8 && ts.all (fun t => t.ok && gateB ts t) && (rts ts).all (fitB ts)
theorem thingExists_any (a : Option Addr) (len cap : Nat) (i : Int) (w : World) :
    Calls Tryd.prog 64 #[.slice a len cap, .int .i64 i] w fun e w' => e = .returned (.bool (inB i 1 len)) ∧ Below w.heap.size w w' := by
  go_enter Tryd.func64, Tryd.ntmps64
  go_wp2_with (go_at_call 60; refine (inRange_any _ _ _ _).mono ?_; rintro e w' ⟨rfl, rfl⟩)
  go_ret
  exact ⟨rfl, Below.refl _ _⟩
theorem kindAt_any (a : Option Addr) (cap : Nat) (ts : List Th) (i k : Int) (w : World) (hT : RowT w a ts) :
    Calls Tryd.prog 62 #[.slice a ts.length cap, .int .i64 i, .int .i64 k] w fun e w' => e = .returned (.bool (kindAtB ts i k)) ∧ Below w.heap.size w w' := by
  have tt : Below w.heap.size w w := Below.refl _ _
  have hml := hT.len
  cases e1 : inB i 1 ts.length
  · have e2 : kindAtB ts i k = false := by simp [kindAtB, e1]
    rw [e2]
    clear e2 hT
    generalize ts.length = m at hml e1
    go_enter Tryd.func62, Tryd.ntmps62
    go_wp2_with (first | (go_at_call 64; refine (thingExists_any _ _ _ _ _).mono ?_; rintro e w' ⟨rfl, hb⟩; skip; have zt := tt.size; (replace tt : Below w.heap.size w w' := by (refine Below.trans ?_ (hb.mono ?_)); (all_goals (repeat (first | with_reducible exact tt | (with_reducible refine Below.setCell ?_ ?_ _) | (with_reducible refine Below.alloc ?_ ?_ _) | with_reducible refine Below.drew ?_)); (all_goals (first | omega | (simp <;> omega))))); clear zt; skip; clear hb))
    go_ret
    exact ⟨rfl, tt⟩
  · have e1' : 1 ≤ i ∧ i ≤ ts.length := by simpa [inB] using e1
    obtain ⟨j, rfl⟩ : ∃ j : Nat, i = j + 1 := ⟨(i - 1).toNat, by omega⟩
    obtain ⟨b, off, t, rfl, hx, hb, h8⟩ := hT.at (k := j) (by omega)
    obtain ⟨sa, sc, qa, qc, c0, _, _, _, _, _, _, _, _, _⟩ := h8
    have e2 : kindAtB ts (j + 1) k = (t.kind == k) := by
      simp only [kindAtB, e1, Bool.true_and]
      rw [show ((j : Int) + 1 - 1).toNat = j from by omega, hx]
      rfl
    rw [e2]
    clear e2 hT hx e1'
    generalize ts.length = m at hml e1
    have e3 : (1 : Int) ≤ j + 1 ∧ (j : Int) + 1 ≤ m := by simpa [inB] using e1
    go_enter Tryd.func62, Tryd.ntmps62
    have tc : ∀ u, Below w.heap.size w u → u.cell? ⟨b, off + j * 8, none⟩ = some (.int .i64 t.kind) := fun u hu => (hu.cell (p := ⟨b, off + j * 8, none⟩) hb).trans c0
    go_wp2_with (first | (go_at_call 64; refine (thingExists_any _ _ _ _ _).mono ?_; rintro e w' ⟨rfl, hb'⟩; have c0' := tc _ hb'; clear c0))
    go_ret
    exact ⟨rfl, by assumption⟩
theorem bodyM_ret {F : Fence} {n : Nat} {P : Program} {fn : Func} {R : Ending → World → Prop} {a : Act} {w : World} {v : Value}
    (hr : (results fn a.tmps).run P w = .ok v w) (hd : a.defers = []) (hR : R (.returned v) w) : bodyPostM F n P fn R .ret a w := by
  show LeavesInM F n P fn a.tmps R a.defers .returning w
  rw [hd]
  exact ⟨v, hr, hR⟩
theorem tblOk_no_len {ts : List Th} (h : inB ts.length 1 8 = false) : tblOk ts = false := by simp [tblOk, h]
theorem tblOk_no_th {ts : List Th} {k : Nat} {t : Th} (hx : ts[k]? = some t) (h : (t.ok && gateB ts t) = false) : tblOk ts = false := by
  unfold tblOk; rw [all_no (p := fun t => t.ok && gateB ts t) hx h]; simp
theorem tblOk_no_rt {ts : List Th} {pre : List Rt} {x : Rt} (hp : pre <+: rts ts) (hx : x ∈ pre) (h : fitB ts x = false) : tblOk ts = false := by
  have : (rts ts).all (fitB ts) = false := by
    rw [Bool.eq_false_iff]; intro h2
    have := List.all_eq_true.1 h2 x (hp.subset hx)
    rw [h] at this; cases this
  unfold tblOk; rw [this]; simp
theorem tblOk_yes {ts : List Th} (h1 : inB ts.length 1 8 = true) (h2 : Pre (fun t => t.ok && gateB ts t) ts ts.length) (h3 : ∀ x ∈ rts ts, fitB ts x = true) : tblOk ts = true := by
  have : (rts ts).all (fitB ts) = true := List.all_eq_true.2 h3
  unfold tblOk; rw [h1, h2.all, this]; rfl
set_option maxRecDepth 100000 in
set_option maxHeartbeats 8000000 in
theorem tableOk_any (a : Option Addr) (cap : Nat) (ts : List Th) (w : World) (hT : RowT w a ts) :
    Calls Tryd.prog 32 #[.slice a ts.length cap] w fun e w' => e = .returned (.bool (tblOk ts)) ∧ Below w.heap.size w w' := by
  have tt : Below w.heap.size w w := Below.refl _ _
  have hml := hT.len
  have HT := hid hT
  have CK := hid (fun (u : World) (hu : Below w.heap.size w u) (i k : Int) => kindAt_any a cap ts i k u (hT.below hu))
  clear hT
  obtain ⟨m, em⟩ : ∃ m, m = ts.length := ⟨_, rfl⟩
  rw [← em] at CK hml ⊢
  have EM := hid em
  clear em
  have hA := own_alloc (own_new w (.cells #[.slice a m cap] 23)) (.cells #[.bool false] 4)
  have hR := own_new (w.alloc (.cells #[.slice a m cap] 23)) (.cells #[.bool false] 4)
  simp only [World.size_alloc] at hA hR
  refine (callsIn_wide (n := 6)).1 (callsIn_of_wp_marks Tryd.func32 rfl trivial ((wpIn_wide (n := 6)).2 ?_) rfl)
  simp only [Tryd.ntmps32, List.size_toArray, List.length_cons, List.length_nil, Nat.reduceAdd, Nat.reduceSub, Array.replicate_succ, Array.replicate_zero, List.push_toArray, List.append_toArray, List.nil_append, List.cons_append]
  cases e1 : inB m 1 8
  · go_wp2_with (first | (go_at_call 60; refine (inRange_b _ _ _ _).mono ?_; rintro e w' ⟨rfl, hb⟩; (try clear cc_hA ff_hA); (try clear zz_hA zy_hA); (try clear cc_hR ff_hR); (try clear zz_hR zy_hR); have zt := tt.size; (replace tt : Below w.heap.size w w' := by (refine Below.trans ?_ (hb.mono ?_)); (all_goals (repeat (first | with_reducible exact tt | (with_reducible refine Below.setCell ?_ ?_ _) | (with_reducible refine Below.alloc ?_ ?_ _) | with_reducible refine Below.drew ?_)); (all_goals (first | omega | (simp <;> omega))))); clear zt; replace hA := own_below hb (by repeat (first | exact hA | apply own_alloc)); replace hR := own_below hb (by repeat (first | exact hR | apply own_alloc)); obtain ⟨cc_hA, ff_hA⟩ := own_cells hA; have zz_hA := own_lt hA; have zy_hA := Nat.lt_add_right 1 (own_lt hA); obtain ⟨cc_hR, ff_hR⟩ := own_cells hR; have zz_hR := own_lt hR; have zy_hR := Nat.lt_add_right 1 (own_lt hR); clear hb))
    refine bodyM_ret (v := .bool false) ?_ rfl ⟨ret_bool (tblOk_no_len (EM.out ▸ e1)).symm, ?_⟩
    · simp only [results, Tryd.results32]
      go_simp
    · have zt := tt.size
      (repeat (first | with_reducible exact tt | (with_reducible refine Below.setCell ?_ ?_ _) | (with_reducible refine Below.alloc ?_ ?_ _) | (with_reducible refine Below.drew ?_) | with_reducible refine Below.drewN' ?_ _)); (all_goals (first | omega | (simp <;> omega)))
  · have e1' : 1 ≤ m ∧ m ≤ 8 := by simp [inB] at e1; omega
    go_wp2_with (first | (go_at_call 60; refine (inRange_b _ _ _ _).mono ?_; rintro e w' ⟨rfl, hb⟩; (try clear cc_hA ff_hA); (try clear zz_hA zy_hA); (try clear cc_hR ff_hR); (try clear zz_hR zy_hR); have zt := tt.size; (replace tt : Below w.heap.size w w' := by (refine Below.trans ?_ (hb.mono ?_)); (all_goals (repeat (first | with_reducible exact tt | (with_reducible refine Below.setCell ?_ ?_ _) | (with_reducible refine Below.alloc ?_ ?_ _) | with_reducible refine Below.drew ?_)); (all_goals (first | omega | (simp <;> omega))))); clear zt; replace hA := own_below hb (by repeat (first | exact hA | apply own_alloc)); replace hR := own_below hb (by repeat (first | exact hR | apply own_alloc)); obtain ⟨cc_hA, ff_hA⟩ := own_cells hA; have zz_hA := own_lt hA; have zy_hA := Nat.lt_add_right 1 (own_lt hA); obtain ⟨cc_hR, ff_hR⟩ := own_cells hR; have zz_hR := own_lt hR; have zy_hR := Nat.lt_add_right 1 (own_lt hR); clear hb))
    go_loopw [12] (fun i wr => ∃ k : Nat, i = .int .i64 k ∧ k ≤ m ∧ Pre (fun t => t.ok && gateB ts t) ts k ∧ Below w.heap.size w wr ∧ wr.heap[w.heap.size]? = some (.cells #[.slice a m cap] 23) ∧ wr.heap[w.heap.size + 1]? = some (.cells #[.bool false] 4))
      (fun i _ => m - (intOf i).toNat)
    case atStart => exact ⟨0, rfl, Nat.zero_le _, Pre.zero _ _, tt, hA, hR⟩
    case round =>
      clear tt hA hR
      (try clear cc_hA ff_hA); (try clear zz_hA zy_hA); (try clear cc_hR ff_hR); (try clear zz_hR zy_hR)
      obtain ⟨k, rfl, hk, hp, tt, hA, hR⟩ := hrel
      obtain ⟨cc_hA, ff_hA⟩ := own_cells hA
      obtain ⟨cc_hR, ff_hR⟩ := own_cells hR
      have HP := hid hp
      clear hp
      have zz_hR := own_lt hR
      by_cases hkm : k < m
      · obtain ⟨b, off, t, rfl, hx, hb, h8⟩ := HT.out.at (k := k) (by rw [← EM.out]; exact hkm)
        obtain ⟨sa, sc, qa, qc, c0, c1, c2, c3, c4, c5, c6, c7, hRw, hQw⟩ := h8
        replace c0 := (tt.cell (p := ⟨b, _, none⟩) hb).trans c0
        replace c1 := (tt.cell (p := ⟨b, _, none⟩) hb).trans c1
        replace c2 := (tt.cell (p := ⟨b, _, none⟩) hb).trans c2
        replace c3 := (tt.cell (p := ⟨b, _, none⟩) hb).trans c3
        replace c4 := (tt.cell (p := ⟨b, _, none⟩) hb).trans c4
        replace c5 := (tt.cell (p := ⟨b, _, none⟩) hb).trans c5
        replace c6 := (tt.cell (p := ⟨b, _, none⟩) hb).trans c6
        replace c7 := (tt.cell (p := ⟨b, _, none⟩) hb).trans c7
        have HX := hid hx
        have CO := hid (fun (u : World) (hu : Below w.heap.size w u) => thingOk_any t.kind t.sec t.vou t.vers t.num t.tg sa qa t.slots sc t.queue qc u (hRw.below hu) (hQw.below hu))
        clear hx hRw hQw
        obtain ⟨r, er⟩ : ∃ r, r = t.slots.length := ⟨_, rfl⟩
        obtain ⟨q, eq⟩ : ∃ q, q = t.queue.length := ⟨_, rfl⟩
        rw [← er] at c5
        rw [← eq] at c6
        rw [← er, ← eq] at CO
        clear er eq
        have hC := own_new wr (.cells #[.int .i64 t.kind, .int .i64 t.sec, .int .i64 t.vou, .int .i64 t.vers, .int .i64 t.num, .slice sa r sc, .slice qa q qc, .int .i64 t.tg] 36)
        replace hA := own_alloc hA (.cells #[.int .i64 t.kind, .int .i64 t.sec, .int .i64 t.vou, .int .i64 t.vers, .int .i64 t.num, .slice sa r sc, .slice qa q qc, .int .i64 t.tg] 36)
        replace hR := own_alloc hR (.cells #[.int .i64 t.kind, .int .i64 t.sec, .int .i64 t.vou, .int .i64 t.vers, .int .i64 t.num, .slice sa r sc, .slice qa q qc, .int .i64 t.tg] 36)
        obtain ⟨ob, eo⟩ : ∃ ob, ob = t.ok := ⟨_, rfl⟩
        rw [show thOk t.kind t.sec t.vou t.vers t.num t.slots t.queue t.tg = ob from eo.symm] at CO
        have EO := hid eo
        clear eo
        cases ob
        · go_wp2_with (first | (go_at_call 61; refine (CO.out _ (by (have zt := tt.size); (repeat (first | with_reducible exact tt | (with_reducible refine Below.setCell ?_ ?_ _) | (with_reducible refine Below.alloc ?_ ?_ _) | with_reducible refine Below.drew ?_)); (all_goals (first | omega | (simp <;> omega))))).mono ?_; rintro e w' ⟨rfl, hb⟩; (try clear cc_hA ff_hA); (try clear zz_hA zy_hA); (try clear cc_hR ff_hR); (try clear zz_hR zy_hR); (try clear cc_hC ff_hC); (try clear zz_hC zy_hC); have zt := tt.size; (replace tt : Below w.heap.size w w' := by (refine Below.trans ?_ (hb.mono ?_)); (all_goals (repeat (first | with_reducible exact tt | (with_reducible refine Below.setCell ?_ ?_ _) | (with_reducible refine Below.alloc ?_ ?_ _) | with_reducible refine Below.drew ?_)); (all_goals (first | omega | (simp <;> omega))))); clear zt; replace hA := own_below hb (by repeat (first | exact hA | apply own_alloc)); replace hR := own_below hb (by repeat (first | exact hR | apply own_alloc)); replace hC := own_below hb (by repeat (first | exact hC | apply own_alloc)); obtain ⟨cc_hA, ff_hA⟩ := own_cells hA; have zz_hA := own_lt hA; have zy_hA := Nat.lt_add_right 1 (own_lt hA); obtain ⟨cc_hR, ff_hR⟩ := own_cells hR; have zz_hR := own_lt hR; have zy_hR := Nat.lt_add_right 1 (own_lt hR); obtain ⟨cc_hC, ff_hC⟩ := own_cells hC; have zz_hC := own_lt hC; have zy_hC := Nat.lt_add_right 1 (own_lt hC); clear hb))
          refine bodyM_ret (v := .bool false) ?_ rfl ⟨ret_bool (tblOk_no_th HX.out (by rw [← EO.out]; rfl)).symm, ?_⟩
          · simp only [results, Tryd.results32]
            go_simp
          · have zt := tt.size
            (repeat (first | with_reducible exact tt | (with_reducible refine Below.setCell ?_ ?_ _) | (with_reducible refine Below.alloc ?_ ?_ _) | (with_reducible refine Below.drew ?_) | with_reducible refine Below.drewN' ?_ _)); (all_goals (first | omega | (simp <;> omega)))
        · cases e5 : (t.kind == 5)
          · go_wp2_with (first | (go_at_call 61; refine (CO.out _ (by (have zt := tt.size); (repeat (first | with_reducible exact tt | (with_reducible refine Below.setCell ?_ ?_ _) | (with_reducible refine Below.alloc ?_ ?_ _) | with_reducible refine Below.drew ?_)); (all_goals (first | omega | (simp <;> omega))))).mono ?_; rintro e w' ⟨rfl, hb⟩; (try clear cc_hA ff_hA); (try clear zz_hA zy_hA); (try clear cc_hR ff_hR); (try clear zz_hR zy_hR); (try clear cc_hC ff_hC); (try clear zz_hC zy_hC); have zt := tt.size; (replace tt : Below w.heap.size w w' := by (refine Below.trans ?_ (hb.mono ?_)); (all_goals (repeat (first | with_reducible exact tt | (with_reducible refine Below.setCell ?_ ?_ _) | (with_reducible refine Below.alloc ?_ ?_ _) | with_reducible refine Below.drew ?_)); (all_goals (first | omega | (simp <;> omega))))); clear zt; replace hA := own_below hb (by repeat (first | exact hA | apply own_alloc)); replace hR := own_below hb (by repeat (first | exact hR | apply own_alloc)); replace hC := own_below hb (by repeat (first | exact hC | apply own_alloc)); obtain ⟨cc_hA, ff_hA⟩ := own_cells hA; have zz_hA := own_lt hA; have zy_hA := Nat.lt_add_right 1 (own_lt hA); obtain ⟨cc_hR, ff_hR⟩ := own_cells hR; have zz_hR := own_lt hR; have zy_hR := Nat.lt_add_right 1 (own_lt hR); obtain ⟨cc_hC, ff_hC⟩ := own_cells hC; have zz_hC := own_lt hC; have zy_hC := Nat.lt_add_right 1 (own_lt hC); clear hb))
            go_roundw
            case rel => exact ⟨k + 1, by go_num, by omega, HP.out.succ HX.out (by rw [← EO.out]; simp [gateB, e5]), tt, hA, hR⟩
            case measure => simp [intOf]; omega
          · obtain ⟨gb, eg⟩ : ∃ gb, gb = kindAtB ts t.tg 1 := ⟨_, rfl⟩
            have CK2 := hid (fun (u : World) (hu : Below w.heap.size w u) => CK.out u hu t.tg 1)
            rw [← eg] at CK2
            have EG := hid eg
            clear eg
            cases gb
            · go_wp2_with (first | (go_at_call 61; refine (CO.out _ (by (have zt := tt.size); (repeat (first | with_reducible exact tt | (with_reducible refine Below.setCell ?_ ?_ _) | (with_reducible refine Below.alloc ?_ ?_ _) | with_reducible refine Below.drew ?_)); (all_goals (first | omega | (simp <;> omega))))).mono ?_; rintro e w' ⟨rfl, hb⟩; (try clear cc_hA ff_hA); (try clear zz_hA zy_hA); (try clear cc_hR ff_hR); (try clear zz_hR zy_hR); (try clear cc_hC ff_hC); (try clear zz_hC zy_hC); have zt := tt.size; (replace tt : Below w.heap.size w w' := by (refine Below.trans ?_ (hb.mono ?_)); (all_goals (repeat (first | with_reducible exact tt | (with_reducible refine Below.setCell ?_ ?_ _) | (with_reducible refine Below.alloc ?_ ?_ _) | with_reducible refine Below.drew ?_)); (all_goals (first | omega | (simp <;> omega))))); clear zt; replace hA := own_below hb (by repeat (first | exact hA | apply own_alloc)); replace hR := own_below hb (by repeat (first | exact hR | apply own_alloc)); replace hC := own_below hb (by repeat (first | exact hC | apply own_alloc)); obtain ⟨cc_hA, ff_hA⟩ := own_cells hA; have zz_hA := own_lt hA; have zy_hA := Nat.lt_add_right 1 (own_lt hA); obtain ⟨cc_hR, ff_hR⟩ := own_cells hR; have zz_hR := own_lt hR; have zy_hR := Nat.lt_add_right 1 (own_lt hR); obtain ⟨cc_hC, ff_hC⟩ := own_cells hC; have zz_hC := own_lt hC; have zy_hC := Nat.lt_add_right 1 (own_lt hC); clear hb) | (go_at_call 62; refine (CK2.out _ (by (have zt := tt.size); (repeat (first | with_reducible exact tt | (with_reducible refine Below.setCell ?_ ?_ _) | (with_reducible refine Below.alloc ?_ ?_ _) | with_reducible refine Below.drew ?_)); (all_goals (first | omega | (simp <;> omega))))).mono ?_; rintro e w' ⟨rfl, hb⟩; (try clear cc_hA ff_hA); (try clear zz_hA zy_hA); (try clear cc_hR ff_hR); (try clear zz_hR zy_hR); (try clear cc_hC ff_hC); (try clear zz_hC zy_hC); have zt := tt.size; (replace tt : Below w.heap.size w w' := by (refine Below.trans ?_ (hb.mono ?_)); (all_goals (repeat (first | with_reducible exact tt | (with_reducible refine Below.setCell ?_ ?_ _) | (with_reducible refine Below.alloc ?_ ?_ _) | with_reducible refine Below.drew ?_)); (all_goals (first | omega | (simp <;> omega))))); clear zt; replace hA := own_below hb (by repeat (first | exact hA | apply own_alloc)); replace hR := own_below hb (by repeat (first | exact hR | apply own_alloc)); replace hC := own_below hb (by repeat (first | exact hC | apply own_alloc)); obtain ⟨cc_hA, ff_hA⟩ := own_cells hA; have zz_hA := own_lt hA; have zy_hA := Nat.lt_add_right 1 (own_lt hA); obtain ⟨cc_hR, ff_hR⟩ := own_cells hR; have zz_hR := own_lt hR; have zy_hR := Nat.lt_add_right 1 (own_lt hR); obtain ⟨cc_hC, ff_hC⟩ := own_cells hC; have zz_hC := own_lt hC; have zy_hC := Nat.lt_add_right 1 (own_lt hC); clear hb))
              refine bodyM_ret (v := .bool false) ?_ rfl ⟨ret_bool (tblOk_no_th HX.out (by rw [← EO.out]; simp [gateB, e5, ← EG.out])).symm, ?_⟩
              · simp only [results, Tryd.results32]
                go_simp
              · have zt := tt.size
                (repeat (first | with_reducible exact tt | (with_reducible refine Below.setCell ?_ ?_ _) | (with_reducible refine Below.alloc ?_ ?_ _) | (with_reducible refine Below.drew ?_) | with_reducible refine Below.drewN' ?_ _)); (all_goals (first | omega | (simp <;> omega)))
            · go_wp2_with (first | (go_at_call 61; refine (CO.out _ (by (have zt := tt.size); (repeat (first | with_reducible exact tt | (with_reducible refine Below.setCell ?_ ?_ _) | (with_reducible refine Below.alloc ?_ ?_ _) | with_reducible refine Below.drew ?_)); (all_goals (first | omega | (simp <;> omega))))).mono ?_; rintro e w' ⟨rfl, hb⟩; (try clear cc_hA ff_hA); (try clear zz_hA zy_hA); (try clear cc_hR ff_hR); (try clear zz_hR zy_hR); (try clear cc_hC ff_hC); (try clear zz_hC zy_hC); have zt := tt.size; (replace tt : Below w.heap.size w w' := by (refine Below.trans ?_ (hb.mono ?_)); (all_goals (repeat (first | with_reducible exact tt | (with_reducible refine Below.setCell ?_ ?_ _) | (with_reducible refine Below.alloc ?_ ?_ _) | with_reducible refine Below.drew ?_)); (all_goals (first | omega | (simp <;> omega))))); clear zt; replace hA := own_below hb (by repeat (first | exact hA | apply own_alloc)); replace hR := own_below hb (by repeat (first | exact hR | apply own_alloc)); replace hC := own_below hb (by repeat (first | exact hC | apply own_alloc)); obtain ⟨cc_hA, ff_hA⟩ := own_cells hA; have zz_hA := own_lt hA; have zy_hA := Nat.lt_add_right 1 (own_lt hA); obtain ⟨cc_hR, ff_hR⟩ := own_cells hR; have zz_hR := own_lt hR; have zy_hR := Nat.lt_add_right 1 (own_lt hR); obtain ⟨cc_hC, ff_hC⟩ := own_cells hC; have zz_hC := own_lt hC; have zy_hC := Nat.lt_add_right 1 (own_lt hC); clear hb) | (go_at_call 62; refine (CK2.out _ (by (have zt := tt.size); (repeat (first | with_reducible exact tt | (with_reducible refine Below.setCell ?_ ?_ _) | (with_reducible refine Below.alloc ?_ ?_ _) | with_reducible refine Below.drew ?_)); (all_goals (first | omega | (simp <;> omega))))).mono ?_; rintro e w' ⟨rfl, hb⟩; (try clear cc_hA ff_hA); (try clear zz_hA zy_hA); (try clear cc_hR ff_hR); (try clear zz_hR zy_hR); (try clear cc_hC ff_hC); (try clear zz_hC zy_hC); have zt := tt.size; (replace tt : Below w.heap.size w w' := by (refine Below.trans ?_ (hb.mono ?_)); (all_goals (repeat (first | with_reducible exact tt | (with_reducible refine Below.setCell ?_ ?_ _) | (with_reducible refine Below.alloc ?_ ?_ _) | with_reducible refine Below.drew ?_)); (all_goals (first | omega | (simp <;> omega))))); clear zt; replace hA := own_below hb (by repeat (first | exact hA | apply own_alloc)); replace hR := own_below hb (by repeat (first | exact hR | apply own_alloc)); replace hC := own_below hb (by repeat (first | exact hC | apply own_alloc)); obtain ⟨cc_hA, ff_hA⟩ := own_cells hA; have zz_hA := own_lt hA; have zy_hA := Nat.lt_add_right 1 (own_lt hA); obtain ⟨cc_hR, ff_hR⟩ := own_cells hR; have zz_hR := own_lt hR; have zy_hR := Nat.lt_add_right 1 (own_lt hR); obtain ⟨cc_hC, ff_hC⟩ := own_cells hC; have zz_hC := own_lt hC; have zy_hC := Nat.lt_add_right 1 (own_lt hC); clear hb))
              go_roundw
              case rel => exact ⟨k + 1, by go_num, by omega, HP.out.succ HX.out (by rw [← EO.out]; simp [gateB, e5, ← EG.out]), tt, hA, hR⟩
              case measure => simp [intOf]; omega
      · obtain rfl : k = m := by omega
        go_wp2_with (go_at_call 63; refine ((callsIn_wide (n := 5)).1 (allRights_in Fence.wide 5 trivial rfl _ _ _ _)).mono ?_; rintro e w' ⟨rfl, rfl⟩)
        have zr := own_lt hR
        have bA : Boxed (wr.alloc (.cells #[.slice a k cap] 23)) w.heap.size 23 (.slice a k cap) := own_alloc hA _
        have bR : Boxed (wr.alloc (.cells #[.slice a k cap] 23)) (w.heap.size + 1) 4 (.bool false) := own_alloc hR _
        have bS : Boxed (wr.alloc (.cells #[.slice a k cap] 23)) wr.heap.size 23 (.slice a k cap) := own_new wr _
        have t0 : Below w.heap.size w (wr.alloc (.cells #[.slice a k cap] 23)) := tt.alloc tt.size _
        have hsz : (wr.alloc (.cells #[.slice a k cap] 23)).heap.size = wr.heap.size + 1 := by simp
        obtain ⟨B, hB⟩ : ∃ B, B = wr.heap.size := ⟨_, rfl⟩
        rw [← hB] at bS hsz zr
        obtain ⟨W0, hW0⟩ : ∃ W0, wr.alloc (.cells #[.slice a k cap] 23) = W0 := ⟨_, rfl⟩
        rw [← hB, hW0]
        rw [hW0] at bA bR bS t0 hsz
        clear hW0 hB tt hA hR cc_hA ff_hA cc_hR ff_hR zz_hR
        have z0 := t0.size
        refine (wpIn_wide (n := 6)).1 ?_
        refine wpIn_rangeFunc_ownH (F := Fence.wide) rfl (by omega) (gf := 92) (lb := #[.pointer (some ⟨B, 0, none⟩)]) rfl trivial (enters_of Tryd.func92 (by kernel_rfl) rfl)
          (encs := fun x => #[rtV x]) (Kp := Below w.heap.size) (S := fun ys => ys = rts ts) (Sp := fun pre => pre <+: rts ts) (N := (rts ts).length) (w0 := W0)
          (fun l J Jx W hW hJ hJx hY h0 => allR1_in Fence.wide 5 trivial rfl (by omega) l B w a cap ts HT.out J Jx W hJ hY (t0.trans (hW.mono z0)) ((hW.cell (p := ⟨B, 0, none⟩) bS.lt).trans (EM.out ▸ bS.cell)) h0)
          belowK_t (belowK_b z0) (Below.refl _ _) (fun _ => rfl)
          (fun pre W => (((∀ x ∈ pre, fitB ts x = true) ∧ Boxed W (w.heap.size + 1) 4 (.bool false)) ∧ Boxed W w.heap.size 23 (.slice a k cap)) ∧ Below w.heap.size w W)
          (fun c pre W => ((c = .ret ∧ ∃ x ∈ pre, fitB ts x = false) ∧ Boxed W (w.heap.size + 1) 4 (.bool false)) ∧ Below w.heap.size w W)
          (OwnFrom.and (OwnFrom.and (OwnFrom.and (ownFrom_pure _ _) (Own.from (boxed_own _ _ _) _)) (Own.from (boxed_own _ _ _) _)) (ownFrom_below (Nat.le_refl _) z0))
          (fun c => OwnFrom.and (OwnFrom.and (ownFrom_pure _ _) (Own.from (boxed_own _ _ _) _)) (ownFrom_below (Nat.le_refl _) z0))
          ⟨⟨⟨by simp, bR⟩, bA⟩, t0⟩
          (fun x a' W => ∃ Bx, w.heap.size + 1 < Bx ∧ W.heap[Bx]? = some (.cells #[.int .i64 x.t, .int .i64 x.v, .bool x.r, .bool x.w, .bool x.k] 38 (0, 0)) ∧ a' = { tmps := #[.slice a k cap, .pointer (some ⟨w.heap.size, 0, none⟩), .pointer (some ⟨w.heap.size + 1, 0, none⟩), undef, u4, .pointer (some ⟨Bx, 0, none⟩), .slice a k cap,
            .int .i64 k, .bool true, .bool false, .slice a k cap, .int .i64 k, .int .i64 k, .bool false, u14, u15, u16, u17, u18, u19, u20, u21, u22, u23, u24, u25, u26, u27, u28, u29, .slice a k cap,
            .func (.func 92) #[] #[.pointer (some ⟨B, 0, none⟩)], rtV x, undef, undef, undef, undef, undef, undef, undef, undef, undef, undef, undef, undef, undef, undef, undef, undef, undef, undef, undef, undef], defers := [] })
          (fun x a' _ X Y row hs hg hr => by obtain ⟨Bx, e1, e2, e3⟩ := hs; exact ⟨Bx, e1, (hg.block Bx (own_lt e2) (fun e => by obtain ⟨o, ho, hc⟩ := (hr Bx e.symm).2; rw [e2] at ho; cases ho; cases hc)).trans e2, e3⟩)
          ?assign ?body ?done ?stop
        case assign =>
          rintro l pre x W K ⟨⟨⟨hp, bR1⟩, bA1⟩, hB1⟩ hK
          unfold rtV
          gi_wp2
          exact hK _ _ ((KeepsOthers.alloc _ _).from _) ((Below.refl _ W).alloc hB1.size _) ⟨⟨⟨hp, bR1.alloc _⟩, bA1.alloc _⟩, hB1.alloc hB1.size _⟩ ⟨W.heap.size, bR1.lt, own_new W _, rfl⟩
        case body =>
          rintro l pre x a' W hl ⟨r, hr⟩ ⟨⟨⟨hp, bR1⟩, bA1⟩, hB1⟩ ⟨Bx, hBx, bX, rfl⟩ hlt
          obtain ⟨xt, xv, xr, xw, xk⟩ := x
          dsimp only at bX
          have zX := own_lt bX
          obtain ⟨cX, fX⟩ := own_cells bX
          obtain ⟨cR, fR⟩ := own_cells bR1
          have hHK : ∀ W2, Below W.heap.size W W2 → KeepsFrom W0.heap.size W W2 := fun W2 hu => ⟨hu.size, fun k o _ hk _ => (hu.block k (Array.getElem?_eq_some_iff.1 hk).1).trans hk⟩
          cases ez : (xt == 0)
          · cases ei : inB xt 1 k
            · have HF := hid (show fitB ts ⟨xt, xv, xr, xw, xk⟩ = false by simp [fitB, ez, ← EM.out, ei])
              gi_wp2
              refine rnd_region (l := l) rfl (by kernel_rfl) (by kernel_rfl) (by kernel_rfl) ?_
              repeat (first
                | (refine rskip (fun _ _ _ _ => trivial) rfl (fun K hK => ?_); go_simp; refine hK _ ?_; clear hK K)
                | (apply rval (fun _ _ _ _ => trivial) rfl; (case h => (intro u hu; obtain ⟨_, _⟩ := own_cells (own_below hu bA1); obtain ⟨_, _⟩ := own_cells (own_below hu bR1); obtain ⟨_, _⟩ := own_cells (own_below hu bX); go_simp; exact rfl)); (intro K hK; go_simp; refine hK _ ?_; clear hK K))
                | (apply rcall (fun _ _ _ _ => trivial) (fun h => by cases h) rfl; (case h => (intro u hu; go_simp; exact ⟨rfl, rfl⟩)); (case hc => (intro u hu; exact CallsIn.inRound l ((callsIn_wide (n := 6 - 1 - 1 - 1)).2 ((thingExists_any _ _ _ _ _).mono (fun e w' ⟨he, hb⟩ => ⟨he, hu.trans (hb.mono hu.size)⟩))))); (intro K hK; go_simp; refine hK _ ?_; clear hK K)))
              refine wpQuietIn_nil ?_
              intro W2 hu
              clear cX fX cR fR
              have bR2 : Boxed W2 (w.heap.size + 1) 4 (.bool false) := own_below hu bR1
              have cR := bR2.cell
              have fR := bR2.frozen
              have hB2 := hB1.trans (hu.mono hB1.size)
              gi_wp2
              exact ⟨(hHK _ hu).trans ((KeepsOthers.setCell _ _ _).from _), ⟨⟨rfl, _, List.mem_append.2 (.inr (List.mem_singleton.2 rfl)), HF.out⟩, bR2.set _⟩, hB2.setCell (p := ⟨w.heap.size + 1, 0, none⟩) (by simp) _⟩
            · have ei' : 1 ≤ xt ∧ xt ≤ k := by simpa [inB] using ei
              obtain ⟨j, rfl⟩ : ∃ j : Nat, xt = j + 1 := ⟨(xt - 1).toNat, by omega⟩
              obtain ⟨b, off, t, rfl, hx, hb, h8⟩ := HT.out.at (k := j) (by rw [← EM.out]; omega)
              obtain ⟨sa, sc, qa, qc, _, _, _, c3, _, _, _, _, _, _⟩ := h8
              have TC : ∀ u, Below W.heap.size W u → u.cell? ⟨b, off + j * 8 + 3, none⟩ = some (.int .i64 t.vers) := fun u hu => ((hB1.trans (hu.mono hB1.size)).cell (p := ⟨b, off + j * 8 + 3, none⟩) hb).trans c3
              have hj : (j : Int) + 1 ≤ k := ei'.2
              have hfit : fitB ts ⟨j + 1, xv, xr, xw, xk⟩ = !decide (t.vers < xv) := by
                have e3 : ((j : Int) + 1 - 1).toNat = j := by omega
                simp only [fitB, ez, ← EM.out, ei, e3, hx, Bool.false_or, Bool.true_and, Option.elim]
                rw [Bool.eq_iff_iff]; simp
              have hj2 : j < k := by omega
              have hwj : IntKind.i64.wrap (j : Int) = j := by simp [IntKind.wrap, IntKind.bits, IntKind.signed]; omega
              have HF := hid hfit
              clear hfit hx ei'
              cases ev : decide (t.vers < xv)
              · have HV := hid ev
                gi_wp2
                refine rnd_region (l := l) rfl (by kernel_rfl) (by kernel_rfl) (by kernel_rfl) ?_
                repeat (first
                  | (refine rskip (fun _ _ _ _ => trivial) rfl (fun K hK => ?_); go_simp; refine hK _ ?_; clear hK K)
                  | (apply rval (fun _ _ _ _ => trivial) rfl; (case h => (intro u hu; obtain ⟨_, _⟩ := own_cells (own_below hu bA1); obtain ⟨_, _⟩ := own_cells (own_below hu bR1); obtain ⟨_, _⟩ := own_cells (own_below hu bX); have := TC u hu; go_simp; exact rfl)); (intro K hK; go_simp; refine hK _ ?_; clear hK K))
                  | (apply rcall (fun _ _ _ _ => trivial) (fun h => by cases h) rfl; (case h => (intro u hu; go_simp; exact ⟨rfl, rfl⟩)); (case hc => (intro u hu; exact CallsIn.inRound l ((callsIn_wide (n := 6 - 1 - 1 - 1)).2 ((thingExists_any _ _ _ _ _).mono (fun e w' ⟨he, hb⟩ => ⟨he, hu.trans (hb.mono hu.size)⟩))))); (intro K hK; go_simp; refine hK _ ?_; clear hK K)))
                refine wpQuietIn_nil ?_
                intro W2 hu
                clear cX fX cR fR
                have bR2 : Boxed W2 (w.heap.size + 1) 4 (.bool false) := own_below hu bR1
                have cR := bR2.cell
                have fR := bR2.frozen
                have hB2 := hB1.trans (hu.mono hB1.size)
                gi_wp2
                exact ⟨hHK _ hu, (hu.mono hB1.size), ⟨⟨fun y hy => (List.mem_append.1 hy).elim (hp y) (fun e => by simp at e; subst e; rw [HF.out, HV.out]; rfl), bR2⟩, own_below hu bA1⟩, hB2⟩
              · have HV := hid ev
                gi_wp2
                refine rnd_region (l := l) rfl (by kernel_rfl) (by kernel_rfl) (by kernel_rfl) ?_
                repeat (first
                  | (refine rskip (fun _ _ _ _ => trivial) rfl (fun K hK => ?_); go_simp; refine hK _ ?_; clear hK K)
                  | (apply rval (fun _ _ _ _ => trivial) rfl; (case h => (intro u hu; obtain ⟨_, _⟩ := own_cells (own_below hu bA1); obtain ⟨_, _⟩ := own_cells (own_below hu bR1); obtain ⟨_, _⟩ := own_cells (own_below hu bX); have := TC u hu; go_simp; exact rfl)); (intro K hK; go_simp; refine hK _ ?_; clear hK K))
                  | (apply rcall (fun _ _ _ _ => trivial) (fun h => by cases h) rfl; (case h => (intro u hu; go_simp; exact ⟨rfl, rfl⟩)); (case hc => (intro u hu; exact CallsIn.inRound l ((callsIn_wide (n := 6 - 1 - 1 - 1)).2 ((thingExists_any _ _ _ _ _).mono (fun e w' ⟨he, hb⟩ => ⟨he, hu.trans (hb.mono hu.size)⟩))))); (intro K hK; go_simp; refine hK _ ?_; clear hK K)))
                refine wpQuietIn_nil ?_
                intro W2 hu
                clear cX fX cR fR
                have bR2 : Boxed W2 (w.heap.size + 1) 4 (.bool false) := own_below hu bR1
                have cR := bR2.cell
                have fR := bR2.frozen
                have hB2 := hB1.trans (hu.mono hB1.size)
                gi_wp2
                exact ⟨(hHK _ hu).trans ((KeepsOthers.setCell _ _ _).from _), ⟨⟨rfl, _, List.mem_append.2 (.inr (List.mem_singleton.2 rfl)), by rw [HF.out, HV.out]; rfl⟩, bR2.set _⟩, hB2.setCell (p := ⟨w.heap.size + 1, 0, none⟩) (by simp) _⟩
          · gi_wp2
            exact ⟨KeepsFrom.refl _ _, Below.refl _ _, ⟨⟨fun y hy => (List.mem_append.1 hy).elim (hp y) (fun e => by simp at e; subst e; simp [fitB, ez]), bR1⟩, bA1⟩, hB1⟩
        case done =>
          rintro D ys W hD rfl ⟨⟨⟨hp, bR1⟩, bA1⟩, hB1⟩ hK
          have cR := bR1.cell
          have fR := bR1.frozen
          go_wp2_with fail
          have hK' := (KeepsOthers.setCell W ⟨w.heap.size + 1, 0, none⟩ (.bool true)).same D _ hK rfl
          refine ⟨by simp, .inl ⟨_, _, rfl, run_takeDeferred hK', ?_⟩⟩
          have hc5 := cell_kept (bR1.set (.bool true)).cell (grownBy_putObj' _ D (.deferred none)) (fun r e => by cases e; exact ⟨_, hK', rfl⟩)
          refine ⟨.bool true, ?_, ret_bool (tblOk_yes (EM.out ▸ e1) (EM.out ▸ HP.out) hp).symm, (hB1.setCell (p := ⟨w.heap.size + 1, 0, none⟩) (by simp) _).trans (belowK_b (w := w) (Nat.le_refl _) _ D _ _ (by omega) hK' rfl rfl)⟩
          simp [results, Tryd.results32, go_sem, hc5]
        case stop =>
          rintro D c pre W hD hpre ⟨⟨⟨rfl, x, hx, hy⟩, bR1⟩, hB1⟩ hK
          gi_wp2
          refine ⟨by simp, .inl ⟨_, _, rfl, run_takeDeferred hK, ?_⟩⟩
          have hc5 := cell_kept bR1.cell (grownBy_putObj' _ D (.deferred none)) (fun r e => by cases e; exact ⟨_, hK, rfl⟩)
          refine ⟨.bool false, ?_, ret_bool (tblOk_no_rt hpre hx hy).symm, hB1.trans (belowK_b (w := w) (Nat.le_refl _) W D _ _ (by omega) hK rfl rfl)⟩
          simp [results, Tryd.results32, go_sem, hc5]
end Go.Proofs.YtcgmnpppdoadhaaDoor
