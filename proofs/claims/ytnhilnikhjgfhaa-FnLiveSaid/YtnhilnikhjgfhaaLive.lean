/- Contracts of what lives, of the program and of the reference. No condition but where the table lies. -/
import Derived.Test.YtnhilnikhjgfhaaChk
namespace Go.Proofs.Ytnhilnikhjgfhaa
open Go Go.RowKit
set_option linter.unusedVariables false
set_option linter.unusedSimpArgs false

section
variable {P : Program} {ops : Array Oper} {C : World → Prop} {Q : Act → Prop}
/-- The first n operations are passed over. -/
def skipsB (ops : Array Oper) : Nat → List Oper → Act → Bool
  | 0, _, _ => true
  | _ + 1, [], _ => false
  | n + 1, o :: l, a => !(Region.wanted o (yielded ops a.tmps)) && skipsB ops n l (a.put o.dst undef)
def skipAct : Nat → List Oper → Act → Act
  | 0, _, a => a
  | _ + 1, [], a => a
  | n + 1, o :: l, a => skipAct n l (a.put o.dst undef)
theorem qskips : ∀ (n : Nat) (l : List Oper) (a : Act), skipsB ops n l a = true → wpQuiet P ops C Q (l.drop n) (skipAct n l a) → wpQuiet P ops C Q l a
  | 0, _, _, _, h => h
  | _ + 1, [], _, h, _ => by cases h
  | n + 1, o :: l, a, hs, h => by
    simp only [skipsB, Bool.and_eq_true, Bool.not_eq_true'] at hs
    exact BigFrame.wpQuiet_skip hs.1 (qskips n l _ hs.2 h)
/-- An operation and all that is passed over behind it, in one step. -/
theorem qval_skips {a : Act} {o : Oper} {rest : List Oper} (v : Value) (n : Nat) (hw : Region.wanted o (yielded ops a.tmps) = true) (hs : skipsB ops n rest (a.put o.dst v) = true) (h : ∀ u, C u → (execOp a.eval o).run P u = .ok (.value v) u)
    (hk : ∀ K : Act → Prop, (∀ a, wpQuiet P ops C Q (rest.drop n) a → K a) → K (skipAct n rest (a.put o.dst v))) : wpQuiet P ops C Q (o :: rest) a :=
  qval hw h (fun K hK => hK _ (qskips n rest _ hs (hk _ fun _ h => h)))
end
set_option maxHeartbeats 4000000 in
theorem rightLive_any (a : Option Addr) (cap : Nat) (ts : List Th) (r : Rt) (w : World) (hT : RowT w a ts) :
    Calls Try.prog 65 #[.slice a ts.length cap, .agg #[.int .i64 r.t, .int .i64 r.v, .bool r.r, .bool r.w, .bool r.k]] w fun e w' => e = .returned (.bool (liveB ts r)) ∧ Below w.heap.size w w' := by
  obtain ⟨rt, rv, rr, rw_, rk⟩ := r
  have hml := hT.len
  have hX := own_new w (.cells #[.int .i64 rt, .int .i64 rv, .bool rr, .bool rw_, .bool rk] 44)
  have t5 : Below w.heap.size w (w.alloc (.cells #[.int .i64 rt, .int .i64 rv, .bool rr, .bool rw_, .bool rk] 44)) := (Below.refl _ _).alloc (Nat.le_refl _) _
  cases e1 : inB rt 1 ts.length
  · have e2 : liveB ts ⟨rt, rv, rr, rw_, rk⟩ = false := by simp [liveB, e1]
    rw [e2]
    clear e2 hT
    dsimp only
    generalize ts.length = m at hml e1
    have CX := hid (fun u => thingExists_any a m cap rt u)
    rw [e1] at CX
    clear e1
    go_enter Try.func65, Try.ntmps65
    go_wp2_with fail
    refine named (p := fun W => Code.wp _ _ _ _ W) _ ?_
    intro W hW
    replace hX := own_eq hW hX
    rw [hW] at t5
    clear hW
    refine wp_region_quiet_below (by kernel_rfl) (by kernel_rfl) ?_
    iterate 4 (first | ((with_reducible apply qval); (case hw => exact rfl); (case h => (intro u hu; obtain ⟨_, _⟩ := own_cells (own_below hu hX); go_simp; exact rfl)); (intro K hK; go_simp; refine hK _ ?_; clear hK K)) | ((with_reducible apply qcall); (case hw => exact rfl); (case h => (intro u hu; go_simp; exact ⟨rfl, rfl⟩)); (case hc => (intro u hu; with_reducible exact Calls.in_below hu (CX.out _))); (intro K hK; go_simp; refine hK _ ?_; clear hK K)))
    refine qval_skips (.bool false) 10 rfl (by kernel_rfl) ?h0 ?hk0
    case h0 => (intro u hu; go_simp)
    intro K hK
    simp only [skipAct, List.drop_succ_cons, List.drop_zero] at hK ⊢
    go_simp
    refine hK _ ?_
    clear hK K
    iterate 2 (first | ((with_reducible apply qval); (case hw => exact rfl); (case h => (intro u hu; obtain ⟨_, _⟩ := own_cells (own_below hu hX); go_simp; exact rfl)); (intro K hK; go_simp; refine hK _ ?_; clear hK K)) | ((with_reducible apply qcall); (case hw => exact rfl); (case h => (intro u hu; go_simp; exact ⟨rfl, rfl⟩)); (case hc => (intro u hu; with_reducible exact Calls.in_below hu (CX.out _))); (intro K hK; go_simp; refine hK _ ?_; clear hK K)))
    refine wpQuiet_nil ?_
    intro u hu
    go_wp2_with fail
    go_ret
    exact ⟨rfl, t5.trans (hu.mono t5.size)⟩
  · obtain ⟨j, rfl, hj⟩ := inB_nat e1
    have hx : ts[j]? = some ts[j] := by simp [hj]
    obtain ⟨b, off, rfl, hb, TI⟩ := hT.get hx
    have e2 : liveB ts ⟨j + 1, rv, rr, rw_, rk⟩ = (ts[j].vers == rv) := by
      simp only [liveB, e1, Bool.true_and]
      rw [show ((j : Int) + 1 - 1).toNat = j from by omega, hx]
      rfl
    rw [e2]
    have hwj := wr_small hj hml
    have tc := fun u hu => (TI u hu).vrs
    clear e2 hT hx TI
    dsimp only
    generalize ts[j] = t at *
    generalize ts.length = m at *
    have CX := hid (fun u => thingExists_any (some ⟨b, off, none⟩) m cap ((j : Int) + 1) u)
    rw [e1] at CX
    clear e1
    go_enter Try.func65, Try.ntmps65
    go_wp2_with fail
    refine named (p := fun W => Code.wp _ _ _ _ W) _ ?_
    intro W hW
    replace hX := own_eq hW hX
    rw [hW] at t5
    clear hW
    refine wp_region_quiet_below (by kernel_rfl) (by kernel_rfl) ?_
    repeat (first
      | ((with_reducible apply qskip); (case hw => exact rfl); (intro K hK; go_simp; (with_reducible refine hK _ ?_); clear hK K))
      | ((with_reducible apply qval); (case hw => exact rfl); (case h => (intro u hu; obtain ⟨_, _⟩ := own_cells (own_below hu hX); have := tc u (t5.trans (hu.mono t5.size)); go_simp; exact rfl)); (intro K hK; go_simp; (with_reducible refine hK _ ?_); clear hK K))
      | ((with_reducible apply qcall); (case hw => exact rfl); (case h => (intro u hu; go_simp; exact ⟨rfl, rfl⟩)); (case hc => (intro u hu; with_reducible exact Calls.in_below hu (CX.out _))); (intro K hK; go_simp; (with_reducible refine hK _ ?_); clear hK K)))
    refine wpQuiet_nil ?_
    intro u hu
    go_wp2_with fail
    go_ret
    exact ⟨rfl, t5.trans (hu.mono t5.size)⟩
set_option maxHeartbeats 4000000 in
theorem l3Live_any (a : Option Addr) (cap : Nat) (ts : List Th) (r : Rt) (w : World) (hT : RowT w a ts) :
    Calls Try.prog 66 #[.slice a ts.length cap, .agg #[.int .i64 r.t, .int .i64 r.v, .bool r.r, .bool r.w, .bool r.k]] w fun e w' => e = .returned (.bool (liveB ts r)) ∧ Below w.heap.size w w' := by
  obtain ⟨rt, rv, rr, rw_, rk⟩ := r
  have hml := hT.len
  have hX := own_new w (.cells #[.int .i64 rt, .int .i64 rv, .bool rr, .bool rw_, .bool rk] 44)
  have t5 : Below w.heap.size w (w.alloc (.cells #[.int .i64 rt, .int .i64 rv, .bool rr, .bool rw_, .bool rk] 44)) := (Below.refl _ _).alloc (Nat.le_refl _) _
  cases e1 : inB rt 1 ts.length
  · have e2 : liveB ts ⟨rt, rv, rr, rw_, rk⟩ = false := by simp [liveB, e1]
    rw [e2]
    clear e2 hT
    dsimp only
    generalize ts.length = m at hml e1
    have CX := hid (fun u => l6In_b rt 1 m u)
    rw [e1] at CX
    clear e1
    go_enter Try.func66, Try.ntmps66
    go_wp2_with fail
    refine named (p := fun W => Code.wp _ _ _ _ W) _ ?_
    intro W hW
    replace hX := own_eq hW hX
    rw [hW] at t5
    clear hW
    refine wp_region_quiet_below (by kernel_rfl) (by kernel_rfl) ?_
    iterate 5 (first | ((with_reducible apply qval); (case hw => exact rfl); (case h => (intro u hu; obtain ⟨_, _⟩ := own_cells (own_below hu hX); go_simp; exact rfl)); (intro K hK; go_simp; refine hK _ ?_; clear hK K)) | ((with_reducible apply qcall); (case hw => exact rfl); (case h => (intro u hu; go_simp; exact ⟨rfl, rfl⟩)); (case hc => (intro u hu; with_reducible exact Calls.in_below hu (CX.out _))); (intro K hK; go_simp; refine hK _ ?_; clear hK K)))
    refine qval_skips (.bool false) 10 rfl (by kernel_rfl) ?h0 ?hk0
    case h0 => (intro u hu; go_simp)
    intro K hK
    simp only [skipAct, List.drop_succ_cons, List.drop_zero] at hK ⊢
    go_simp
    refine hK _ ?_
    clear hK K
    iterate 2 (first | ((with_reducible apply qval); (case hw => exact rfl); (case h => (intro u hu; obtain ⟨_, _⟩ := own_cells (own_below hu hX); go_simp; exact rfl)); (intro K hK; go_simp; refine hK _ ?_; clear hK K)) | ((with_reducible apply qcall); (case hw => exact rfl); (case h => (intro u hu; go_simp; exact ⟨rfl, rfl⟩)); (case hc => (intro u hu; with_reducible exact Calls.in_below hu (CX.out _))); (intro K hK; go_simp; refine hK _ ?_; clear hK K)))
    refine wpQuiet_nil ?_
    intro u hu
    go_wp2_with fail
    go_ret
    exact ⟨rfl, t5.trans (hu.mono t5.size)⟩
  · obtain ⟨j, rfl, hj⟩ := inB_nat e1
    have hx : ts[j]? = some ts[j] := by simp [hj]
    obtain ⟨b, off, rfl, hb, TI⟩ := hT.get hx
    have e2 : liveB ts ⟨j + 1, rv, rr, rw_, rk⟩ = (ts[j].vers == rv) := by
      simp only [liveB, e1, Bool.true_and]
      rw [show ((j : Int) + 1 - 1).toNat = j from by omega, hx]
      rfl
    rw [e2]
    have hwj := wr_small hj hml
    have tc := fun u hu => (TI u hu).vrs
    clear e2 hT hx TI
    dsimp only
    generalize ts[j] = t at *
    generalize ts.length = m at *
    have CX := hid (fun u => l6In_b ((j : Int) + 1) 1 m u)
    rw [e1] at CX
    clear e1
    go_enter Try.func66, Try.ntmps66
    go_wp2_with fail
    refine named (p := fun W => Code.wp _ _ _ _ W) _ ?_
    intro W hW
    replace hX := own_eq hW hX
    rw [hW] at t5
    clear hW
    refine wp_region_quiet_below (by kernel_rfl) (by kernel_rfl) ?_
    repeat (first
      | ((with_reducible apply qskip); (case hw => exact rfl); (intro K hK; go_simp; (with_reducible refine hK _ ?_); clear hK K))
      | ((with_reducible apply qval); (case hw => exact rfl); (case h => (intro u hu; obtain ⟨_, _⟩ := own_cells (own_below hu hX); have := tc u (t5.trans (hu.mono t5.size)); go_simp; exact rfl)); (intro K hK; go_simp; (with_reducible refine hK _ ?_); clear hK K))
      | ((with_reducible apply qcall); (case hw => exact rfl); (case h => (intro u hu; go_simp; exact ⟨rfl, rfl⟩)); (case hc => (intro u hu; with_reducible exact Calls.in_below hu (CX.out _))); (intro K hK; go_simp; (with_reducible refine hK _ ?_); clear hK K)))
    refine wpQuiet_nil ?_
    intro u hu
    go_wp2_with fail
    go_ret
    exact ⟨rfl, t5.trans (hu.mono t5.size)⟩
set_option maxHeartbeats 4000000 in
theorem tableLive_any (a : Option Addr) (cap : Nat) (ts : List Th) (r : Rt) (w : World) (hT : RowT w a ts) :
    Calls Try.prog 23 #[.slice a ts.length cap, .agg #[.int .i64 r.t, .int .i64 r.v, .bool r.r, .bool r.w, .bool r.k]] w fun e w' => e = .returned (.bool (tblLive ts r)) ∧ Below w.heap.size w w' := by
  have tt : Below w.heap.size w w := Below.refl _ _
  have CT := hid (fun u (hu : Below w.heap.size w u) => tableOk_any a cap ts u (hT.below hu))
  have CL := hid (fun u (hu : Below w.heap.size w u) => rightLive_any a cap ts r u (hT.below hu))
  have CR := hid (fun u => rtOk_any r u)
  obtain ⟨b1, f1⟩ : ∃ b, b = tblOk ts := ⟨_, rfl⟩
  obtain ⟨b2, f2⟩ : ∃ b, b = r.ok := ⟨_, rfl⟩
  obtain ⟨b3, f3⟩ : ∃ b, b = liveB ts r := ⟨_, rfl⟩
  rw [show tblLive ts r = (b1 && (b2 && b3)) by rw [f1, f2, f3]; rfl]
  rw [← f1] at CT
  rw [← f2] at CR
  rw [← f3] at CL
  clear f1 f2 f3 hT
  have hA := own_new w (.cells #[.int .i64 r.t, .int .i64 r.v, .bool r.r, .bool r.w, .bool r.k] 44)
  generalize ts.length = m at *
  cases b1 <;> cases b2
  all_goals
    go_enter Try.func23, Try.ntmps23
    go_wp2_with (first | (go_at_call 20; refine (CT.out _ (by (have zt := tt.size); (repeat (first | with_reducible exact tt | (with_reducible refine Below.setCell ?_ ?_ _) | (with_reducible refine Below.alloc ?_ ?_ _) | with_reducible refine Below.drew ?_)); (all_goals (first | omega | (simp <;> omega))))).mono ?_; rintro e w' ⟨rfl, hb⟩; (try clear cc_hA ff_hA); (try clear zz_hA zy_hA); have zt := tt.size; (replace tt : Below w.heap.size w w' := by (refine Below.trans ?_ (hb.mono ?_)); (all_goals (repeat (first | with_reducible exact tt | (with_reducible refine Below.setCell ?_ ?_ _) | (with_reducible refine Below.alloc ?_ ?_ _) | with_reducible refine Below.drew ?_)); (all_goals (first | omega | (simp <;> omega))))); clear zt; replace hA := own_below hb (by repeat (first | exact hA | apply own_alloc)); obtain ⟨cc_hA, ff_hA⟩ := own_cells hA; have zz_hA := own_lt hA; have zy_hA := Nat.lt_add_right 1 (own_lt hA); clear hb) | (go_at_call 64; refine (CR.out _).mono ?_; rintro e w' ⟨rfl, hb⟩; (try clear cc_hA ff_hA); (try clear zz_hA zy_hA); have zt := tt.size; (replace tt : Below w.heap.size w w' := by (refine Below.trans ?_ (hb.mono ?_)); (all_goals (repeat (first | with_reducible exact tt | (with_reducible refine Below.setCell ?_ ?_ _) | (with_reducible refine Below.alloc ?_ ?_ _) | with_reducible refine Below.drew ?_)); (all_goals (first | omega | (simp <;> omega))))); clear zt; replace hA := own_below hb (by repeat (first | exact hA | apply own_alloc)); obtain ⟨cc_hA, ff_hA⟩ := own_cells hA; have zz_hA := own_lt hA; have zy_hA := Nat.lt_add_right 1 (own_lt hA); clear hb) | (go_at_call 65; refine (CL.out _ (by (have zt := tt.size); (repeat (first | with_reducible exact tt | (with_reducible refine Below.setCell ?_ ?_ _) | (with_reducible refine Below.alloc ?_ ?_ _) | with_reducible refine Below.drew ?_)); (all_goals (first | omega | (simp <;> omega))))).mono ?_; rintro e w' ⟨rfl, hb⟩; (try clear cc_hA ff_hA); (try clear zz_hA zy_hA); have zt := tt.size; (replace tt : Below w.heap.size w w' := by (refine Below.trans ?_ (hb.mono ?_)); (all_goals (repeat (first | with_reducible exact tt | (with_reducible refine Below.setCell ?_ ?_ _) | (with_reducible refine Below.alloc ?_ ?_ _) | with_reducible refine Below.drew ?_)); (all_goals (first | omega | (simp <;> omega))))); clear zt; replace hA := own_below hb (by repeat (first | exact hA | apply own_alloc)); obtain ⟨cc_hA, ff_hA⟩ := own_cells hA; have zz_hA := own_lt hA; have zy_hA := Nat.lt_add_right 1 (own_lt hA); clear hb))
    go_ret
    refine ⟨rfl, ?_⟩
    have zt := tt.size
    (repeat (first | with_reducible exact tt | (with_reducible refine Below.setCell ?_ ?_ _) | (with_reducible refine Below.alloc ?_ ?_ _) | (with_reducible refine Below.drew ?_) | with_reducible refine Below.drewN' ?_ _)); (all_goals (first | omega | (simp <;> omega)))
set_option maxHeartbeats 4000000 in
theorem stableLive_any (a : Option Addr) (cap : Nat) (ts : List Th) (r : Rt) (w : World) (hT : RowT w a ts) :
    Calls Try.prog 24 #[.slice a ts.length cap, .agg #[.int .i64 r.t, .int .i64 r.v, .bool r.r, .bool r.w, .bool r.k]] w fun e w' => e = .returned (.bool (tblLive ts r)) ∧ Below w.heap.size w w' := by
  have tt : Below w.heap.size w w := Below.refl _ _
  have CT := hid (fun u (hu : Below w.heap.size w u) => stableOk_any a cap ts u (hT.below hu))
  have CL := hid (fun u (hu : Below w.heap.size w u) => l3Live_any a cap ts r u (hT.below hu))
  have CR := hid (fun u => srtOk_any r u)
  obtain ⟨b1, f1⟩ : ∃ b, b = tblOk ts := ⟨_, rfl⟩
  obtain ⟨b2, f2⟩ : ∃ b, b = r.ok := ⟨_, rfl⟩
  obtain ⟨b3, f3⟩ : ∃ b, b = liveB ts r := ⟨_, rfl⟩
  rw [show tblLive ts r = (b1 && (b2 && b3)) by rw [f1, f2, f3]; rfl]
  rw [← f1] at CT
  rw [← f2] at CR
  rw [← f3] at CL
  clear f1 f2 f3 hT
  have hA := own_new w (.cells #[.int .i64 r.t, .int .i64 r.v, .bool r.r, .bool r.w, .bool r.k] 44)
  generalize ts.length = m at *
  cases b1 <;> cases b2
  all_goals
    go_enter Try.func24, Try.ntmps24
    go_wp2_with (first | (go_at_call 21; refine (CT.out _ (by (have zt := tt.size); (repeat (first | with_reducible exact tt | (with_reducible refine Below.setCell ?_ ?_ _) | (with_reducible refine Below.alloc ?_ ?_ _) | with_reducible refine Below.drew ?_)); (all_goals (first | omega | (simp <;> omega))))).mono ?_; rintro e w' ⟨rfl, hb⟩; (try clear cc_hA ff_hA); (try clear zz_hA zy_hA); have zt := tt.size; (replace tt : Below w.heap.size w w' := by (refine Below.trans ?_ (hb.mono ?_)); (all_goals (repeat (first | with_reducible exact tt | (with_reducible refine Below.setCell ?_ ?_ _) | (with_reducible refine Below.alloc ?_ ?_ _) | with_reducible refine Below.drew ?_)); (all_goals (first | omega | (simp <;> omega))))); clear zt; replace hA := own_below hb (by repeat (first | exact hA | apply own_alloc)); obtain ⟨cc_hA, ff_hA⟩ := own_cells hA; have zz_hA := own_lt hA; have zy_hA := Nat.lt_add_right 1 (own_lt hA); clear hb) | (go_at_call 25; refine (CR.out _).mono ?_; rintro e w' ⟨rfl, hb⟩; (try clear cc_hA ff_hA); (try clear zz_hA zy_hA); have zt := tt.size; (replace tt : Below w.heap.size w w' := by (refine Below.trans ?_ (hb.mono ?_)); (all_goals (repeat (first | with_reducible exact tt | (with_reducible refine Below.setCell ?_ ?_ _) | (with_reducible refine Below.alloc ?_ ?_ _) | with_reducible refine Below.drew ?_)); (all_goals (first | omega | (simp <;> omega))))); clear zt; replace hA := own_below hb (by repeat (first | exact hA | apply own_alloc)); obtain ⟨cc_hA, ff_hA⟩ := own_cells hA; have zz_hA := own_lt hA; have zy_hA := Nat.lt_add_right 1 (own_lt hA); clear hb) | (go_at_call 66; refine (CL.out _ (by (have zt := tt.size); (repeat (first | with_reducible exact tt | (with_reducible refine Below.setCell ?_ ?_ _) | (with_reducible refine Below.alloc ?_ ?_ _) | with_reducible refine Below.drew ?_)); (all_goals (first | omega | (simp <;> omega))))).mono ?_; rintro e w' ⟨rfl, hb⟩; (try clear cc_hA ff_hA); (try clear zz_hA zy_hA); have zt := tt.size; (replace tt : Below w.heap.size w w' := by (refine Below.trans ?_ (hb.mono ?_)); (all_goals (repeat (first | with_reducible exact tt | (with_reducible refine Below.setCell ?_ ?_ _) | (with_reducible refine Below.alloc ?_ ?_ _) | with_reducible refine Below.drew ?_)); (all_goals (first | omega | (simp <;> omega))))); clear zt; replace hA := own_below hb (by repeat (first | exact hA | apply own_alloc)); obtain ⟨cc_hA, ff_hA⟩ := own_cells hA; have zz_hA := own_lt hA; have zy_hA := Nat.lt_add_right 1 (own_lt hA); clear hb))
    go_ret
    refine ⟨rfl, ?_⟩
    have zt := tt.size
    (repeat (first | with_reducible exact tt | (with_reducible refine Below.setCell ?_ ?_ _) | (with_reducible refine Below.alloc ?_ ?_ _) | (with_reducible refine Below.drew ?_) | with_reducible refine Below.drewN' ?_ _)); (all_goals (first | omega | (simp <;> omega)))
end Go.Proofs.Ytnhilnikhjgfhaa
