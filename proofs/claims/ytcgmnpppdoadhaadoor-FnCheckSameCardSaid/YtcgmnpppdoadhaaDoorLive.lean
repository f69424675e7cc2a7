/- Contracts of what lives, of the program and of the reference. No condition but where the table lies. -/
import Derived.Test.YtcgmnpppdoadhaaDoorChk
namespace Go.Proofs.YtcgmnpppdoadhaaDoor
set_option maxRecDepth 100000
open Go Go.RowKit
set_option linter.unusedVariables false
set_option linter.unusedSimpArgs false

section
variable {P : Program} {ops : Array Oper} {C : World → Prop} {Q : Act → Prop}
/-- The first n operations are passed over. -/
def skipsB (ops : Array Oper) : Nat → List Oper → Act → Bool
  | 0, _, _ => true
  | _ + 1, [], _ => false
  | n + 1, o :: l, a => !(Region.wanted o (yielded ops a.tmps)) && skipsB ops n l (a.put o.dst undef)
def skipAct : Nat → List Oper → Act → Act
  | 0, _, a => a
  | _ + 1, [], a => a
  | n + 1, o :: l, a => skipAct n l (a.put o.dst undef)
theorem qskips : ∀ (n : Nat) (l : List Oper) (a : Act), skipsB ops n l a = true → wpQuiet P ops C Q (l.drop n) (skipAct n l a) → wpQuiet P ops C Q l a
  | 0, _, _, _, h => h
  | _ + 1, [], _, h, _ => by cases h
  | n + 1, o :: l, a, hs, h => by
    simp only [skipsB, Bool.and_eq_true, Bool.not_eq_true'] at hs
    exact BigFrame.wpQuiet_skip hs.1 (qskips n l _ hs.2 h)
/-- An operation and all that is passed over behind it, in one step. -/
theorem qval_skips {a : Act} {o : Oper} {rest : List Oper} (v : Value) (n : Nat) (hw : Region.wanted o (yielded ops a.tmps) = true) (hs : skipsB ops n rest (a.put o.dst v) = true) (h : ∀ u, C u → (execOp a.eval o).run P u = .ok (.value v) u)
    (hk : ∀ K : Act → Prop, (∀ a, wpQuiet P ops C Q (rest.drop n) a → K a) → K (skipAct n rest (a.put o.dst v))) : wpQuiet P ops C Q (o :: rest) a :=
  qval hw h (fun K hK => hK _ (qskips n rest _ hs (hk _ fun _ h => h)))
end
set_option maxHeartbeats 4000000 in
theorem rightLive_any (a : Option Addr) (cap : Nat) (ts : List Th) (r : Rt) (w : World) (hT : RowT w a ts) :
    Calls Tryd.prog 50 #[.slice a ts.length cap, .agg #[.int .i64 r.t, .int .i64 r.v, .bool r.r, .bool r.w, .bool r.k]] w fun e w' => e = .returned (.bool (liveB ts r)) ∧ Below w.heap.size w w' := by
  obtain ⟨rt, rv, rr, rw_, rk⟩ := r
  have hml := hT.len
  have hX := own_new w (.cells #[.int .i64 rt, .int .i64 rv, .bool rr, .bool rw_, .bool rk] 38)
  have t5 : Below w.heap.size w (w.alloc (.cells #[.int .i64 rt, .int .i64 rv, .bool rr, .bool rw_, .bool rk] 38)) := (Below.refl _ _).alloc (Nat.le_refl _) _
  cases e1 : inB rt 1 ts.length
  · have e2 : liveB ts ⟨rt, rv, rr, rw_, rk⟩ = false := by simp [liveB, e1]
    rw [e2]
    clear e2 hT
    dsimp only
    generalize ts.length = m at hml e1
    have CX := hid (fun u => thingExists_any a m cap rt u)
    rw [e1] at CX
    clear e1
    go_enter Tryd.func50, Tryd.ntmps50
    go_wp2_with fail
    refine named (p := fun W => Code.wp _ _ _ _ W) _ ?_
    intro W hW
    replace hX := own_eq hW hX
    rw [hW] at t5
    clear hW
    refine wp_region_quiet_below (by kernel_rfl) (by kernel_rfl) ?_
    iterate 4 (first | ((with_reducible apply qval); (case hw => exact rfl); (case h => (intro u hu; obtain ⟨_, _⟩ := own_cells (own_below hu hX); go_simp; exact rfl)); (intro K hK; go_simp; refine hK _ ?_; clear hK K)) | ((with_reducible apply qcall); (case hw => exact rfl); (case h => (intro u hu; go_simp; exact ⟨rfl, rfl⟩)); (case hc => (intro u hu; with_reducible exact Calls.in_below hu (CX.out _))); (intro K hK; go_simp; refine hK _ ?_; clear hK K)))
    refine qval_skips (.bool false) 10 rfl (by kernel_rfl) ?h0 ?hk0
    case h0 => (intro u hu; go_simp)
    intro K hK
    simp only [skipAct, List.drop_succ_cons, List.drop_zero] at hK ⊢
    go_simp
    refine hK _ ?_
    clear hK K
    iterate 2 (first | ((with_reducible apply qval); (case hw => exact rfl); (case h => (intro u hu; obtain ⟨_, _⟩ := own_cells (own_below hu hX); go_simp; exact rfl)); (intro K hK; go_simp; refine hK _ ?_; clear hK K)) | ((with_reducible apply qcall); (case hw => exact rfl); (case h => (intro u hu; go_simp; exact ⟨rfl, rfl⟩)); (case hc => (intro u hu; with_reducible exact Calls.in_below hu (CX.out _))); (intro K hK; go_simp; refine hK _ ?_; clear hK K)))
    refine wpQuiet_nil ?_
    intro u hu
    go_wp2_with fail
    go_ret
    exact ⟨rfl, t5.trans (hu.mono t5.size)⟩
  · obtain ⟨j, rfl, hj⟩ := inB_nat e1
    have hx : ts[j]? = some ts[j] := by simp [hj]
    obtain ⟨b, off, rfl, hb, TI⟩ := hT.get hx
    have e2 : liveB ts ⟨j + 1, rv, rr, rw_, rk⟩ = (ts[j].vers == rv) := by
      simp only [liveB, e1, Bool.true_and]
      rw [show ((j : Int) + 1 - 1).toNat = j from by omega, hx]
      rfl
    rw [e2]
    have hwj := wr_small hj hml
    have tc := fun u hu => (TI u hu).vrs
    clear e2 hT hx TI
    dsimp only
    generalize ts[j] = t at *
    generalize ts.length = m at *
    have CX := hid (fun u => thingExists_any (some ⟨b, off, none⟩) m cap ((j : Int) + 1) u)
    rw [e1] at CX
    clear e1
    go_enter Tryd.func50, Tryd.ntmps50
    go_wp2_with fail
    refine named (p := fun W => Code.wp _ _ _ _ W) _ ?_
    intro W hW
    replace hX := own_eq hW hX
    rw [hW] at t5
    clear hW
    refine wp_region_quiet_below (by kernel_rfl) (by kernel_rfl) ?_
    repeat (first
      | ((with_reducible apply qskip); (case hw => exact rfl); (intro K hK; go_simp; (with_reducible refine hK _ ?_); clear hK K))
      | ((with_reducible apply qval); (case hw => exact rfl); (case h => (intro u hu; obtain ⟨_, _⟩ := own_cells (own_below hu hX); have := tc u (t5.trans (hu.mono t5.size)); go_simp; exact rfl)); (intro K hK; go_simp; (with_reducible refine hK _ ?_); clear hK K))
      | ((with_reducible apply qcall); (case hw => exact rfl); (case h => (intro u hu; go_simp; exact ⟨rfl, rfl⟩)); (case hc => (intro u hu; with_reducible exact Calls.in_below hu (CX.out _))); (intro K hK; go_simp; (with_reducible refine hK _ ?_); clear hK K)))
    refine wpQuiet_nil ?_
    intro u hu
    go_wp2_with fail
    go_ret
    exact ⟨rfl, t5.trans (hu.mono t5.size)⟩
set_option maxHeartbeats 4000000 in
theorem l3Live_any (a : Option Addr) (cap : Nat) (ts : List Th) (r : Rt) (w : World) (hT : RowT w a ts) :
    Calls Tryd.prog 54 #[.slice a ts.length cap, .agg #[.int .i64 r.t, .int .i64 r.v, .bool r.r, .bool r.w, .bool r.k]] w fun e w' => e = .returned (.bool (liveB ts r)) ∧ Below w.heap.size w w' := by
  obtain ⟨rt, rv, rr, rw_, rk⟩ := r
  have hml := hT.len
  have hX := own_new w (.cells #[.int .i64 rt, .int .i64 rv, .bool rr, .bool rw_, .bool rk] 38)
  have t5 : Below w.heap.size w (w.alloc (.cells #[.int .i64 rt, .int .i64 rv, .bool rr, .bool rw_, .bool rk] 38)) := (Below.refl _ _).alloc (Nat.le_refl _) _
  cases e1 : inB rt 1 ts.length
  · have e2 : liveB ts ⟨rt, rv, rr, rw_, rk⟩ = false := by simp [liveB, e1]
    rw [e2]
    clear e2 hT
    dsimp only
    generalize ts.length = m at hml e1
    have CX := hid (fun u => l6In_b rt 1 m u)
    rw [e1] at CX
    clear e1
    go_enter Tryd.func54, Tryd.ntmps54
    go_wp2_with fail
    refine named (p := fun W => Code.wp _ _ _ _ W) _ ?_
    intro W hW
    replace hX := own_eq hW hX
    rw [hW] at t5
    clear hW
    refine wp_region_quiet_below (by kernel_rfl) (by kernel_rfl) ?_
    iterate 5 (first | ((with_reducible apply qval); (case hw => exact rfl); (case h => (intro u hu; obtain ⟨_, _⟩ := own_cells (own_below hu hX); go_simp; exact rfl)); (intro K hK; go_simp; refine hK _ ?_; clear hK K)) | ((with_reducible apply qcall); (case hw => exact rfl); (case h => (intro u hu; go_simp; exact ⟨rfl, rfl⟩)); (case hc => (intro u hu; with_reducible exact Calls.in_below hu (CX.out _))); (intro K hK; go_simp; refine hK _ ?_; clear hK K)))
    refine qval_skips (.bool false) 10 rfl (by kernel_rfl) ?h0 ?hk0
    case h0 => (intro u hu; go_simp)
    intro K hK
    simp only [skipAct, List.drop_succ_cons, List.drop_zero] at hK ⊢
    go_simp
    refine hK _ ?_
    clear hK K
    iterate 2 (first | ((with_reducible apply qval); (case hw => exact rfl); (case h => (intro u hu; obtain ⟨_, _⟩ := own_cells (own_below hu hX); go_simp; exact rfl)); (intro K hK; go_simp; refine hK _ ?_; clear hK K)) | ((with_reducible apply qcall); (case hw => exact rfl); (case h => (intro u hu; go_simp; exact ⟨rfl, rfl⟩)); (case hc => (intro u hu; with_reducible exact Calls.in_below hu (CX.out _))); (intro K hK; go_simp; refine hK _ ?_; clear hK K)))
    refine wpQuiet_nil ?_
    intro u hu
    go_wp2_with fail
    go_ret
    exact ⟨rfl, t5.trans (hu.mono t5.size)⟩
  · obtain ⟨j, rfl, hj⟩ := inB_nat e1
    have hx : ts[j]? = some ts[j] := by simp [hj]
    obtain ⟨b, off, rfl, hb, TI⟩ := hT.get hx
    have e2 : liveB ts ⟨j + 1, rv, rr, rw_, rk⟩ = (ts[j].vers == rv) := by
      simp only [liveB, e1, Bool.true_and]
      rw [show ((j : Int) + 1 - 1).toNat = j from by omega, hx]
      rfl
    rw [e2]
    have hwj := wr_small hj hml
    have tc := fun u hu => (TI u hu).vrs
    clear e2 hT hx TI
    dsimp only
    generalize ts[j] = t at *
    generalize ts.length = m at *
    have CX := hid (fun u => l6In_b ((j : Int) + 1) 1 m u)
    rw [e1] at CX
    clear e1
    go_enter Tryd.func54, Tryd.ntmps54
    go_wp2_with fail
    refine named (p := fun W => Code.wp _ _ _ _ W) _ ?_
    intro W hW
    replace hX := own_eq hW hX
    rw [hW] at t5
    clear hW
    refine wp_region_quiet_below (by kernel_rfl) (by kernel_rfl) ?_
    repeat (first
      | ((with_reducible apply qskip); (case hw => exact rfl); (intro K hK; go_simp; (with_reducible refine hK _ ?_); clear hK K))
      | ((with_reducible apply qval); (case hw => exact rfl); (case h => (intro u hu; obtain ⟨_, _⟩ := own_cells (own_below hu hX); have := tc u (t5.trans (hu.mono t5.size)); go_simp; exact rfl)); (intro K hK; go_simp; (with_reducible refine hK _ ?_); clear hK K))
      | ((with_reducible apply qcall); (case hw => exact rfl); (case h => (intro u hu; go_simp; exact ⟨rfl, rfl⟩)); (case hc => (intro u hu; with_reducible exact Calls.in_below hu (CX.out _))); (intro K hK; go_simp; (with_reducible refine hK _ ?_); clear hK K)))
    refine wpQuiet_nil ?_
    intro u hu
    go_wp2_with fail
    go_ret
    exact ⟨rfl, t5.trans (hu.mono t5.size)⟩
end Go.Proofs.YtcgmnpppdoadhaaDoor
