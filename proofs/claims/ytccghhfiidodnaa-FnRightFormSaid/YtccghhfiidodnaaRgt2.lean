/- Contracts of the functions on rights, of the program and of the reference: containment, lessening, equality. Each computes its plain function and makes at most new blocks. No condition. -/
import Derived.Test.YtccghhfiidodnaaRgt
namespace Go.Proofs.Ytccghhfiidodnaa
open Go.RowKit
set_option linter.unusedVariables false

theorem capabilityOf_any (t v : Int) (r wr k : Bool) (w : World) :
    Calls Try.prog 24 #[.agg #[.int .i64 t, .int .i64 v, .bool r, .bool wr, .bool k]] w fun e w' => e = .returned (if t == 0 then .iface 50 (.agg #[]) else .iface 52 (.agg #[.int .i64 t, .int .i64 v, .bool r, .bool wr, .bool k])) ∧ Below w.heap.size w w' := by
  cases e : (t == 0)
  · exact capabilityOf_some t v r wr k e w
  · obtain rfl : t = 0 := by simpa using e
    exact capabilityOf_none v r wr k w
set_option maxHeartbeats 4000000 in
theorem l2In_any (t1 v1 : Int) (r1 w1 k1 : Bool) (t2 v2 : Int) (r2 w2 k2 : Bool) (w : World) :
    Calls Try.prog 22 #[.agg #[.int .i64 t1, .int .i64 v1, .bool r1, .bool w1, .bool k1], .agg #[.int .i64 t2, .int .i64 v2, .bool r2, .bool w2, .bool k2]] w fun e w' => e = .returned (.bool (rgtIn t1 v1 r1 w1 k1 t2 v2 r2 w2 k2)) ∧ Below w.heap.size w w' := by
  have t0 : Below w.heap.size w w := Below.refl _ _
  go_enter Try.func22, Try.ntmps22
  go_wp2
  all_goals
    go_ret
    refine ⟨ret_bool (by simp_all [rgtIn]), ?_⟩
    (repeat (first | with_reducible exact t0 | (with_reducible refine Below.setCell ?_ ?_ _) | (with_reducible refine Below.alloc ?_ ?_ _) | with_reducible refine Below.drew ?_)); (all_goals (first | omega | (simp <;> omega)))
theorem srightIn_any (t1 v1 : Int) (r1 w1 k1 : Bool) (t2 v2 : Int) (r2 w2 k2 : Bool) (w : World) :
    Calls Try.prog 11 #[.agg #[.int .i64 t1, .int .i64 v1, .bool r1, .bool w1, .bool k1], .agg #[.int .i64 t2, .int .i64 v2, .bool r2, .bool w2, .bool k2]] w fun e w' => e = .returned (.bool (rgtInB t1 v1 r1 w1 k1 t2 v2 r2 w2 k2)) ∧ Below w.heap.size w w' := by
  have t0 : Below w.heap.size w w := Below.refl _ _
  cases e1 : rgtOk t1 v1 r1 w1 k1
  · go_enter Try.func11, Try.ntmps11
    go_wp2_with fail
    refine (srightOk_any _ _ _ _ _ _).mono ?_
    rintro e w1 ⟨rfl, b1⟩
    have z1 := b1.size
    try simp at z1
    have z1_0 : w.heap.size < w1.heap.size := by omega
    have z1_1 : w.heap.size + 1 < w1.heap.size := by omega
    have t1 : Below w.heap.size w w1 := by
      refine Below.trans ?_ (b1.mono ?_)
      · (repeat (first | with_reducible exact t0 | (with_reducible refine Below.setCell ?_ ?_ _) | (with_reducible refine Below.alloc ?_ ?_ _) | with_reducible refine Below.drew ?_)); (all_goals (first | omega | (simp <;> omega)))
      · first | omega | (simp <;> omega)
    obtain ⟨c1, f1⟩ := bcell b1
    clear b1
    go_wp2_with fail
    go_ret
    exact ⟨ret_bool (by simp [rgtInB, e1]), t1⟩
  cases e2 : rgtOk t2 v2 r2 w2 k2
  · go_enter Try.func11, Try.ntmps11
    go_wp2_with fail
    refine (srightOk_any _ _ _ _ _ _).mono ?_
    rintro e w1 ⟨rfl, b1⟩
    have z1 := b1.size
    try simp at z1
    have z1_0 : w.heap.size < w1.heap.size := by omega
    have z1_1 : w.heap.size + 1 < w1.heap.size := by omega
    have t1 : Below w.heap.size w w1 := by
      refine Below.trans ?_ (b1.mono ?_)
      · (repeat (first | with_reducible exact t0 | (with_reducible refine Below.setCell ?_ ?_ _) | (with_reducible refine Below.alloc ?_ ?_ _) | with_reducible refine Below.drew ?_)); (all_goals (first | omega | (simp <;> omega)))
      · first | omega | (simp <;> omega)
    obtain ⟨c1, f1⟩ := bcell b1
    clear b1
    go_wp2_with fail
    refine (srightOk_any _ _ _ _ _ _).mono ?_
    rintro e w2 ⟨rfl, b2⟩
    have z2 := b2.size
    try simp at z2
    have z2_0 : w.heap.size < w2.heap.size := by omega
    have z2_1 : w.heap.size + 1 < w2.heap.size := by omega
    have t2 : Below w.heap.size w w2 := by
      refine Below.trans ?_ (b2.mono ?_)
      · (repeat (first | with_reducible exact t1 | (with_reducible refine Below.setCell ?_ ?_ _) | (with_reducible refine Below.alloc ?_ ?_ _) | with_reducible refine Below.drew ?_)); (all_goals (first | omega | (simp <;> omega)))
      · first | omega | (simp <;> omega)
    obtain ⟨c2, f2⟩ := bcell b2
    clear b2
    go_wp2_with fail
    go_ret
    exact ⟨ret_bool (by simp [rgtInB, e2]), t2⟩
  · go_enter Try.func11, Try.ntmps11
    go_wp2_with fail
    refine (srightOk_any _ _ _ _ _ _).mono ?_
    rintro e w1 ⟨rfl, b1⟩
    have z1 := b1.size
    try simp at z1
    have z1_0 : w.heap.size < w1.heap.size := by omega
    have z1_1 : w.heap.size + 1 < w1.heap.size := by omega
    have t1 : Below w.heap.size w w1 := by
      refine Below.trans ?_ (b1.mono ?_)
      · (repeat (first | with_reducible exact t0 | (with_reducible refine Below.setCell ?_ ?_ _) | (with_reducible refine Below.alloc ?_ ?_ _) | with_reducible refine Below.drew ?_)); (all_goals (first | omega | (simp <;> omega)))
      · first | omega | (simp <;> omega)
    obtain ⟨c1, f1⟩ := bcell b1
    clear b1
    go_wp2_with fail
    refine (srightOk_any _ _ _ _ _ _).mono ?_
    rintro e w2 ⟨rfl, b2⟩
    have z2 := b2.size
    try simp at z2
    have z2_0 : w.heap.size < w2.heap.size := by omega
    have z2_1 : w.heap.size + 1 < w2.heap.size := by omega
    have t2 : Below w.heap.size w w2 := by
      refine Below.trans ?_ (b2.mono ?_)
      · (repeat (first | with_reducible exact t1 | (with_reducible refine Below.setCell ?_ ?_ _) | (with_reducible refine Below.alloc ?_ ?_ _) | with_reducible refine Below.drew ?_)); (all_goals (first | omega | (simp <;> omega)))
      · first | omega | (simp <;> omega)
    obtain ⟨c2, f2⟩ := bcell b2
    clear b2
    go_wp2_with fail
    refine (l2In_any _ _ _ _ _ _ _ _ _ _ _).mono ?_
    rintro e w3 ⟨rfl, b3⟩
    have z3 := b3.size
    try simp at z3
    have z3_0 : w.heap.size < w3.heap.size := by omega
    have z3_1 : w.heap.size + 1 < w3.heap.size := by omega
    have t3 : Below w.heap.size w w3 := by
      refine Below.trans ?_ (b3.mono ?_)
      · (repeat (first | with_reducible exact t2 | (with_reducible refine Below.setCell ?_ ?_ _) | (with_reducible refine Below.alloc ?_ ?_ _) | with_reducible refine Below.drew ?_)); (all_goals (first | omega | (simp <;> omega)))
      · first | omega | (simp <;> omega)
    obtain ⟨c3, f3⟩ := bcell b3
    clear b3
    go_wp2_with fail
    go_ret
    exact ⟨ret_bool (by simp [rgtInB, e1, e2]), t3⟩
set_option maxHeartbeats 1000000 in
theorem rightIn_any (t1 v1 : Int) (r1 w1 k1 : Bool) (t2 v2 : Int) (r2 w2 k2 : Bool) (w : World) :
    Calls Try.prog 13 #[.agg #[.int .i64 t1, .int .i64 v1, .bool r1, .bool w1, .bool k1], .agg #[.int .i64 t2, .int .i64 v2, .bool r2, .bool w2, .bool k2]] w fun e w' => e = .returned (.bool (rgtInB t1 v1 r1 w1 k1 t2 v2 r2 w2 k2)) ∧ Below w.heap.size w w' := by
  have tt : Below w.heap.size w w := Below.refl _ _
  have hA := own_alloc (own_new w (.cells #[.int .i64 t1, .int .i64 v1, .bool r1, .bool w1, .bool k1] 25)) (.cells #[.int .i64 t2, .int .i64 v2, .bool r2, .bool w2, .bool k2] 25)
  have hB := own_new (w.alloc (.cells #[.int .i64 t1, .int .i64 v1, .bool r1, .bool w1, .bool k1] 25)) (.cells #[.int .i64 t2, .int .i64 v2, .bool r2, .bool w2, .bool k2] 25)
  simp only [World.size_alloc] at hB
  cases e1 : rgtOk t1 v1 r1 w1 k1
  · go_enter Try.func13, Try.ntmps13
    go_wp2_with fail
    refine named (p := fun W => Code.wp _ _ _ _ W) _ ?_
    intro W hW
    (try clear cc_hA ff_hA); (try clear zz_hA zy_hA)
    (try clear cc_hB ff_hB); (try clear zz_hB zy_hB)
    have zt := tt.size
    replace tt : Below w.heap.size w W := by
      rw [← hW]
      (repeat (first | with_reducible exact tt | (with_reducible refine Below.setCell ?_ ?_ _) | (with_reducible refine Below.alloc ?_ ?_ _) | with_reducible refine Below.drew ?_)); (all_goals (first | omega | (simp <;> omega)))
    replace hA := own_eq hW (by repeat (first | exact hA | apply own_alloc))
    replace hB := own_eq hW (by repeat (first | exact hB | apply own_alloc))
    clear hW zt
    refine wp_region_quiet_below (by kernel_rfl) (by kernel_rfl) ?_
    repeat (first
      | (refine qskip rfl (fun K hK => ?_); go_simp; refine hK _ ?_; clear hK K)
      | (apply qval rfl; (case h => (intro u hu; obtain ⟨_, _⟩ := own_cells (own_below hu hA); obtain ⟨_, _⟩ := own_cells (own_below hu hB); go_simp; exact rfl)); (intro K hK; go_simp; refine hK _ ?_; clear hK K))
      | (apply qcall rfl; (case h => (intro u hu; go_simp; exact ⟨rfl, rfl⟩)); (case hc => (intro u hu; with_reducible exact Calls.in_below hu (rightOk_any _ _ _ _ _ _))); (intro K hK; go_simp; refine hK _ ?_; clear hK K)))
    refine wpQuiet_nil ?_
    intro w' hu
    replace tt := tt.trans (hu.mono tt.size)
    replace hA := own_below hu hA
    replace hB := own_below hu hB
    obtain ⟨cc_hA, ff_hA⟩ := own_cells hA; have zz_hA := own_lt hA; have zy_hA := Nat.lt_add_right 1 (own_lt hA)
    obtain ⟨cc_hB, ff_hB⟩ := own_cells hB; have zz_hB := own_lt hB; have zy_hB := Nat.lt_add_right 1 (own_lt hB)
    clear hu
    go_wp2_with fail
    go_ret
    exact ⟨ret_bool (by simp [rgtInB, e1]), tt⟩
  cases e2 : rgtOk t2 v2 r2 w2 k2
  · go_enter Try.func13, Try.ntmps13
    go_wp2_with fail
    refine named (p := fun W => Code.wp _ _ _ _ W) _ ?_
    intro W hW
    (try clear cc_hA ff_hA); (try clear zz_hA zy_hA)
    (try clear cc_hB ff_hB); (try clear zz_hB zy_hB)
    have zt := tt.size
    replace tt : Below w.heap.size w W := by
      rw [← hW]
      (repeat (first | with_reducible exact tt | (with_reducible refine Below.setCell ?_ ?_ _) | (with_reducible refine Below.alloc ?_ ?_ _) | with_reducible refine Below.drew ?_)); (all_goals (first | omega | (simp <;> omega)))
    replace hA := own_eq hW (by repeat (first | exact hA | apply own_alloc))
    replace hB := own_eq hW (by repeat (first | exact hB | apply own_alloc))
    clear hW zt
    refine wp_region_quiet_below (by kernel_rfl) (by kernel_rfl) ?_
    repeat (first
      | (refine qskip rfl (fun K hK => ?_); go_simp; refine hK _ ?_; clear hK K)
      | (apply qval rfl; (case h => (intro u hu; obtain ⟨_, _⟩ := own_cells (own_below hu hA); obtain ⟨_, _⟩ := own_cells (own_below hu hB); go_simp; exact rfl)); (intro K hK; go_simp; refine hK _ ?_; clear hK K))
      | (apply qcall rfl; (case h => (intro u hu; go_simp; exact ⟨rfl, rfl⟩)); (case hc => (intro u hu; with_reducible exact Calls.in_below hu (rightOk_any _ _ _ _ _ _))); (intro K hK; go_simp; refine hK _ ?_; clear hK K)))
    refine wpQuiet_nil ?_
    intro w' hu
    replace tt := tt.trans (hu.mono tt.size)
    replace hA := own_below hu hA
    replace hB := own_below hu hB
    obtain ⟨cc_hA, ff_hA⟩ := own_cells hA; have zz_hA := own_lt hA; have zy_hA := Nat.lt_add_right 1 (own_lt hA)
    obtain ⟨cc_hB, ff_hB⟩ := own_cells hB; have zz_hB := own_lt hB; have zy_hB := Nat.lt_add_right 1 (own_lt hB)
    clear hu
    go_wp2_with fail
    go_ret
    exact ⟨ret_bool (by simp [rgtInB, e2]), tt⟩
  cases e3 : (t1 == 0)
  · have ht : ¬ t1 = 0 := by simpa using e3
    cases e4 : (t2 == 0)
    · have h4 : ¬ t2 = 0 := by simpa using e4
      generalize hq : rgtIn t1 v1 r1 w1 k1 t2 v2 r2 w2 k2 = q
      have Hq := hid hq
      have HC : ∀ u, Calls Try.prog 23 #[.iface 52 (.agg #[.int .i64 t1, .int .i64 v1, .bool r1, .bool w1, .bool k1]), .iface 52 (.agg #[.int .i64 t2, .int .i64 v2, .bool r2, .bool w2, .bool k2])] u fun e w' => e = .returned (.bool q) ∧ Below u.heap.size u w' := fun u => by rw [← hq]; exact capabilityIn_both _ _ _ _ _ _ _ _ _ _ e3 _
      have HC' := hid HC
      clear hq ht h4 HC
      go_enter Try.func13, Try.ntmps13
      go_wp2_with fail
      refine named (p := fun W => Code.wp _ _ _ _ W) _ ?_
      intro W hW
      (try clear cc_hA ff_hA); (try clear zz_hA zy_hA)
      (try clear cc_hB ff_hB); (try clear zz_hB zy_hB)
      have zt := tt.size
      replace tt : Below w.heap.size w W := by
        rw [← hW]
        (repeat (first | with_reducible exact tt | (with_reducible refine Below.setCell ?_ ?_ _) | (with_reducible refine Below.alloc ?_ ?_ _) | with_reducible refine Below.drew ?_)); (all_goals (first | omega | (simp <;> omega)))
      replace hA := own_eq hW (by repeat (first | exact hA | apply own_alloc))
      replace hB := own_eq hW (by repeat (first | exact hB | apply own_alloc))
      clear hW zt
      refine wp_region_quiet_below (by kernel_rfl) (by kernel_rfl) ?_
      repeat (first
        | (refine qskip rfl (fun K hK => ?_); go_simp; refine hK _ ?_; clear hK K)
        | (apply qval rfl; (case h => (intro u hu; obtain ⟨_, _⟩ := own_cells (own_below hu hA); obtain ⟨_, _⟩ := own_cells (own_below hu hB); go_simp; exact rfl)); (intro K hK; go_simp; refine hK _ ?_; clear hK K))
        | (apply qcall rfl; (case h => (intro u hu; go_simp; exact ⟨rfl, rfl⟩)); (case hc => (intro u hu; with_reducible exact Calls.in_below hu (rightOk_any _ _ _ _ _ _))); (intro K hK; go_simp; refine hK _ ?_; clear hK K))
        | (apply qcall rfl; (case h => (intro u hu; go_simp; exact ⟨rfl, rfl⟩)); (case hc => (intro u hu; with_reducible exact Calls.in_below hu (capabilityOf_some _ _ _ _ _ e3 _))); (intro K hK; go_simp; refine hK _ ?_; clear hK K))
        | (apply qcall rfl; (case h => (intro u hu; go_simp; exact ⟨rfl, rfl⟩)); (case hc => (intro u hu; with_reducible exact Calls.in_below hu (capabilityOf_some _ _ _ _ _ e4 _))); (intro K hK; go_simp; refine hK _ ?_; clear hK K))
        | (apply qcall rfl; (case h => (intro u hu; go_simp; exact ⟨rfl, rfl⟩)); (case hc => (intro u hu; with_reducible exact Calls.in_below hu (HC'.out _))); (intro K hK; go_simp; refine hK _ ?_; clear hK K)))
      refine wpQuiet_nil ?_
      intro w' hu
      replace tt := tt.trans (hu.mono tt.size)
      replace hA := own_below hu hA
      replace hB := own_below hu hB
      obtain ⟨cc_hA, ff_hA⟩ := own_cells hA; have zz_hA := own_lt hA; have zy_hA := Nat.lt_add_right 1 (own_lt hA)
      obtain ⟨cc_hB, ff_hB⟩ := own_cells hB; have zz_hB := own_lt hB; have zy_hB := Nat.lt_add_right 1 (own_lt hB)
      clear hu
      go_wp2_with fail
      go_ret
      exact ⟨ret_bool (by simp [rgtInB, e1, e2, Hq.out]), tt⟩
    · obtain rfl : t2 = 0 := by simpa using e4
      have hq : rgtIn t1 v1 r1 w1 k1 0 v2 r2 w2 k2 = false := by simp [rgtIn, ht]
      clear e4 ht
      go_enter Try.func13, Try.ntmps13
      go_wp2_with fail
      refine named (p := fun W => Code.wp _ _ _ _ W) _ ?_
      intro W hW
      (try clear cc_hA ff_hA); (try clear zz_hA zy_hA)
      (try clear cc_hB ff_hB); (try clear zz_hB zy_hB)
      have zt := tt.size
      replace tt : Below w.heap.size w W := by
        rw [← hW]
        (repeat (first | with_reducible exact tt | (with_reducible refine Below.setCell ?_ ?_ _) | (with_reducible refine Below.alloc ?_ ?_ _) | with_reducible refine Below.drew ?_)); (all_goals (first | omega | (simp <;> omega)))
      replace hA := own_eq hW (by repeat (first | exact hA | apply own_alloc))
      replace hB := own_eq hW (by repeat (first | exact hB | apply own_alloc))
      clear hW zt
      refine wp_region_quiet_below (by kernel_rfl) (by kernel_rfl) ?_
      repeat (first
        | (refine qskip rfl (fun K hK => ?_); go_simp; refine hK _ ?_; clear hK K)
        | (apply qval rfl; (case h => (intro u hu; obtain ⟨_, _⟩ := own_cells (own_below hu hA); obtain ⟨_, _⟩ := own_cells (own_below hu hB); go_simp; exact rfl)); (intro K hK; go_simp; refine hK _ ?_; clear hK K))
        | (apply qcall rfl; (case h => (intro u hu; go_simp; exact ⟨rfl, rfl⟩)); (case hc => (intro u hu; with_reducible exact Calls.in_below hu (rightOk_any _ _ _ _ _ _))); (intro K hK; go_simp; refine hK _ ?_; clear hK K))
        | (apply qcall rfl; (case h => (intro u hu; go_simp; exact ⟨rfl, rfl⟩)); (case hc => (intro u hu; with_reducible exact Calls.in_below hu (capabilityOf_some _ _ _ _ _ e3 _))); (intro K hK; go_simp; refine hK _ ?_; clear hK K))
        | (apply qcall rfl; (case h => (intro u hu; go_simp; exact ⟨rfl, rfl⟩)); (case hc => (intro u hu; with_reducible exact Calls.in_below hu (capabilityOf_none _ _ _ _ _))); (intro K hK; go_simp; refine hK _ ?_; clear hK K))
        | (apply qcall rfl; (case h => (intro u hu; go_simp; exact ⟨rfl, rfl⟩)); (case hc => (intro u hu; with_reducible exact Calls.in_below hu (capabilityIn_some _ _ _ _ _ _))); (intro K hK; go_simp; refine hK _ ?_; clear hK K)))
      refine wpQuiet_nil ?_
      intro w' hu
      replace tt := tt.trans (hu.mono tt.size)
      replace hA := own_below hu hA
      replace hB := own_below hu hB
      obtain ⟨cc_hA, ff_hA⟩ := own_cells hA; have zz_hA := own_lt hA; have zy_hA := Nat.lt_add_right 1 (own_lt hA)
      obtain ⟨cc_hB, ff_hB⟩ := own_cells hB; have zz_hB := own_lt hB; have zy_hB := Nat.lt_add_right 1 (own_lt hB)
      clear hu
      go_wp2_with fail
      go_ret
      exact ⟨ret_bool (by simp [rgtInB, e1, e2, hq]), tt⟩
  · obtain rfl : t1 = 0 := by simpa using e3
    have hq : ∀ t2, rgtIn 0 v1 r1 w1 k1 t2 v2 r2 w2 k2 = true := fun t2 => by simp [rgtIn]
    have Hq := hid hq
    clear hq e3
    cases e4 : (t2 == 0)
    · go_enter Try.func13, Try.ntmps13
      go_wp2_with fail
      refine named (p := fun W => Code.wp _ _ _ _ W) _ ?_
      intro W hW
      (try clear cc_hA ff_hA); (try clear zz_hA zy_hA)
      (try clear cc_hB ff_hB); (try clear zz_hB zy_hB)
      have zt := tt.size
      replace tt : Below w.heap.size w W := by
        rw [← hW]
        (repeat (first | with_reducible exact tt | (with_reducible refine Below.setCell ?_ ?_ _) | (with_reducible refine Below.alloc ?_ ?_ _) | with_reducible refine Below.drew ?_)); (all_goals (first | omega | (simp <;> omega)))
      replace hA := own_eq hW (by repeat (first | exact hA | apply own_alloc))
      replace hB := own_eq hW (by repeat (first | exact hB | apply own_alloc))
      clear hW zt
      refine wp_region_quiet_below (by kernel_rfl) (by kernel_rfl) ?_
      repeat (first
        | (refine qskip rfl (fun K hK => ?_); go_simp; refine hK _ ?_; clear hK K)
        | (apply qval rfl; (case h => (intro u hu; obtain ⟨_, _⟩ := own_cells (own_below hu hA); obtain ⟨_, _⟩ := own_cells (own_below hu hB); go_simp; exact rfl)); (intro K hK; go_simp; refine hK _ ?_; clear hK K))
        | (apply qcall rfl; (case h => (intro u hu; go_simp; exact ⟨rfl, rfl⟩)); (case hc => (intro u hu; with_reducible exact Calls.in_below hu (rightOk_any _ _ _ _ _ _))); (intro K hK; go_simp; refine hK _ ?_; clear hK K))
        | (apply qcall rfl; (case h => (intro u hu; go_simp; exact ⟨rfl, rfl⟩)); (case hc => (intro u hu; with_reducible exact Calls.in_below hu (capabilityOf_none _ _ _ _ _))); (intro K hK; go_simp; refine hK _ ?_; clear hK K))
        | (apply qcall rfl; (case h => (intro u hu; go_simp; exact ⟨rfl, rfl⟩)); (case hc => (intro u hu; with_reducible exact Calls.in_below hu (capabilityOf_some _ _ _ _ _ e4 _))); (intro K hK; go_simp; refine hK _ ?_; clear hK K))
        | (apply qcall rfl; (case h => (intro u hu; go_simp; exact ⟨rfl, rfl⟩)); (case hc => (intro u hu; with_reducible exact Calls.in_below hu (capabilityIn_none _ _))); (intro K hK; go_simp; refine hK _ ?_; clear hK K)))
      refine wpQuiet_nil ?_
      intro w' hu
      replace tt := tt.trans (hu.mono tt.size)
      replace hA := own_below hu hA
      replace hB := own_below hu hB
      obtain ⟨cc_hA, ff_hA⟩ := own_cells hA; have zz_hA := own_lt hA; have zy_hA := Nat.lt_add_right 1 (own_lt hA)
      obtain ⟨cc_hB, ff_hB⟩ := own_cells hB; have zz_hB := own_lt hB; have zy_hB := Nat.lt_add_right 1 (own_lt hB)
      clear hu
      go_wp2_with fail
      go_ret
      exact ⟨ret_bool (by simp [rgtInB, e1, e2, Hq.out]), tt⟩
    · obtain rfl : t2 = 0 := by simpa using e4
      clear e4
      go_enter Try.func13, Try.ntmps13
      go_wp2_with fail
      refine named (p := fun W => Code.wp _ _ _ _ W) _ ?_
      intro W hW
      (try clear cc_hA ff_hA); (try clear zz_hA zy_hA)
      (try clear cc_hB ff_hB); (try clear zz_hB zy_hB)
      have zt := tt.size
      replace tt : Below w.heap.size w W := by
        rw [← hW]
        (repeat (first | with_reducible exact tt | (with_reducible refine Below.setCell ?_ ?_ _) | (with_reducible refine Below.alloc ?_ ?_ _) | with_reducible refine Below.drew ?_)); (all_goals (first | omega | (simp <;> omega)))
      replace hA := own_eq hW (by repeat (first | exact hA | apply own_alloc))
      replace hB := own_eq hW (by repeat (first | exact hB | apply own_alloc))
      clear hW zt
      refine wp_region_quiet_below (by kernel_rfl) (by kernel_rfl) ?_
      repeat (first
        | (refine qskip rfl (fun K hK => ?_); go_simp; refine hK _ ?_; clear hK K)
        | (apply qval rfl; (case h => (intro u hu; obtain ⟨_, _⟩ := own_cells (own_below hu hA); obtain ⟨_, _⟩ := own_cells (own_below hu hB); go_simp; exact rfl)); (intro K hK; go_simp; refine hK _ ?_; clear hK K))
        | (apply qcall rfl; (case h => (intro u hu; go_simp; exact ⟨rfl, rfl⟩)); (case hc => (intro u hu; with_reducible exact Calls.in_below hu (rightOk_any _ _ _ _ _ _))); (intro K hK; go_simp; refine hK _ ?_; clear hK K))
        | (apply qcall rfl; (case h => (intro u hu; go_simp; exact ⟨rfl, rfl⟩)); (case hc => (intro u hu; with_reducible exact Calls.in_below hu (capabilityOf_none _ _ _ _ _))); (intro K hK; go_simp; refine hK _ ?_; clear hK K))
        | (apply qcall rfl; (case h => (intro u hu; go_simp; exact ⟨rfl, rfl⟩)); (case hc => (intro u hu; with_reducible exact Calls.in_below hu (capabilityIn_none _ _))); (intro K hK; go_simp; refine hK _ ?_; clear hK K)))
      refine wpQuiet_nil ?_
      intro w' hu
      replace tt := tt.trans (hu.mono tt.size)
      replace hA := own_below hu hA
      replace hB := own_below hu hB
      obtain ⟨cc_hA, ff_hA⟩ := own_cells hA; have zz_hA := own_lt hA; have zy_hA := Nat.lt_add_right 1 (own_lt hA)
      obtain ⟨cc_hB, ff_hB⟩ := own_cells hB; have zz_hB := own_lt hB; have zy_hB := Nat.lt_add_right 1 (own_lt hB)
      clear hu
      go_wp2_with fail
      go_ret
      exact ⟨ret_bool (by simp [rgtInB, e1, e2, Hq.out]), tt⟩
theorem eqRight_any (t1 v1 : Int) (r1 w1 k1 : Bool) (t2 v2 : Int) (r2 w2 k2 : Bool) (w : World) :
    Calls Try.prog 19 #[.agg #[.int .i64 t1, .int .i64 v1, .bool r1, .bool w1, .bool k1], .agg #[.int .i64 t2, .int .i64 v2, .bool r2, .bool w2, .bool k2]] w fun e w' => e = .returned (.bool (rgtEq t1 v1 r1 w1 k1 t2 v2 r2 w2 k2)) ∧ Below w.heap.size w w' := by
  have t0 : Below w.heap.size w w := Below.refl _ _
  go_enter Try.func19, Try.ntmps19
  go_wp2
  all_goals
    go_ret
    refine ⟨ret_bool (by simp_all [rgtEq]), ?_⟩
    (repeat (first | with_reducible exact t0 | (with_reducible refine Below.setCell ?_ ?_ _) | (with_reducible refine Below.alloc ?_ ?_ _) | with_reducible refine Below.drew ?_)); (all_goals (first | omega | (simp <;> omega)))
set_option maxHeartbeats 4000000 in
theorem l2Less_any (t v : Int) (r wr k rd wt st : Bool) (w : World) (e1 : rgtOk t v r wr k = true) :
    Calls Try.prog 29 #[.agg #[.int .i64 t, .int .i64 v, .bool r, .bool wr, .bool k], .bool rd, .bool wt, .bool st] w fun e w' => e = .returned (.agg #[.int .i64 (lessT t v r wr k), .int .i64 (lessV t v r wr k), .bool (lessR t v r wr k rd), .bool (lessW t v r wr k wt st), .bool (lessK t v r wr k st)]) ∧ Below w.heap.size w w' := by
  have t0 : Below w.heap.size w w := Below.refl _ _
  cases e2 : (t == 0)
  · have ht : ¬ t = 0 := by simpa using e2
    have p1 : lessT t v r wr k = t := by simp [lessT, e1]
    have p2 : lessV t v r wr k = v := by simp [lessV, e1]
    have p3 : lessR t v r wr k rd = (r && rd) := by simp [lessR, e1]
    have p4 : lessW t v r wr k wt st = (wr && wt && st) := by simp [lessW, e1]
    have p5 : lessK t v r wr k st = (k || !st) := by simp [lessK, e1, ht]
    rw [p1, p2, p3, p4, p5]
    clear p1 p2 p3 p4 p5 ht e1
    go_enter Try.func29, Try.ntmps29
    go_wp2
    all_goals
      refine bodyPost_ret (v := .agg #[.int .i64 t, .int .i64 v, .bool (r && rd), .bool (wr && wt && st), .bool (k || !st)]) (by simp only [results, Try.results29]; go_simp) rfl ⟨rfl, ?_⟩
      (repeat (first | with_reducible exact t0 | (with_reducible refine Below.setCell ?_ ?_ _) | (with_reducible refine Below.alloc ?_ ?_ _) | with_reducible refine Below.drew ?_)); (all_goals (first | omega | (simp <;> omega)))
  · obtain rfl : t = 0 := by simpa using e2
    have hn : v = 0 ∧ r = false ∧ wr = false ∧ k = false := by simp [rgtOk, rgtNull, inB] at e1; simp_all
    obtain ⟨rfl, rfl, rfl, rfl⟩ := hn
    have p1 : lessT 0 0 false false false = 0 := by simp [lessT]
    have p2 : lessV 0 0 false false false = 0 := by simp [lessV]
    have p3 : lessR 0 0 false false false rd = false := by simp [lessR]
    have p4 : lessW 0 0 false false false wt st = false := by simp [lessW]
    have p5 : lessK 0 0 false false false st = false := by simp [lessK]
    rw [p1, p2, p3, p4, p5]
    clear p1 p2 p3 p4 p5 e2 e1
    go_enter Try.func29, Try.ntmps29
    go_wp2
    refine bodyPost_ret (v := .agg #[.int .i64 0, .int .i64 0, .bool false, .bool false, .bool false]) (by simp only [results, Try.results29]; go_simp) rfl ⟨rfl, ?_⟩
    (repeat (first | with_reducible exact t0 | (with_reducible refine Below.setCell ?_ ?_ _) | (with_reducible refine Below.alloc ?_ ?_ _) | with_reducible refine Below.drew ?_)); (all_goals (first | omega | (simp <;> omega)))
theorem srightLess_any (t v : Int) (r wr k rd wt st : Bool) (w : World) :
    Calls Try.prog 17 #[.agg #[.int .i64 t, .int .i64 v, .bool r, .bool wr, .bool k], .bool rd, .bool wt, .bool st] w fun e w' => e = .returned (.agg #[.int .i64 (lessT t v r wr k), .int .i64 (lessV t v r wr k), .bool (lessR t v r wr k rd), .bool (lessW t v r wr k wt st), .bool (lessK t v r wr k st)]) ∧ Below w.heap.size w w' := by
  have t0 : Below w.heap.size w w := Below.refl _ _
  cases e1 : rgtOk t v r wr k
  · have p1 : lessT t v r wr k = 0 := by simp [lessT, e1]
    have p2 : lessV t v r wr k = 0 := by simp [lessV, e1]
    have p3 : lessR t v r wr k rd = false := by simp [lessR, e1]
    have p4 : lessW t v r wr k wt st = false := by simp [lessW, e1]
    have p5 : lessK t v r wr k st = false := by simp [lessK, e1]
    rw [p1, p2, p3, p4, p5]
    clear p1 p2 p3 p4 p5
    go_enter Try.func17, Try.ntmps17
    go_wp2_with fail
    refine (srightOk_any _ _ _ _ _ _).mono ?_
    rintro e w1 ⟨rfl, b1⟩
    have z1 := b1.size
    try simp at z1
    have z1_0 : w.heap.size < w1.heap.size := by omega
    have z1_1 : w.heap.size + 1 < w1.heap.size := by omega
    have t1 : Below w.heap.size w w1 := by
      refine Below.trans ?_ (b1.mono ?_)
      · (repeat (first | with_reducible exact t0 | (with_reducible refine Below.setCell ?_ ?_ _) | (with_reducible refine Below.alloc ?_ ?_ _) | with_reducible refine Below.drew ?_)); (all_goals (first | omega | (simp <;> omega)))
      · first | omega | (simp <;> omega)
    obtain ⟨c1, f1⟩ := bcell b1
    have o0 : w1.cell? ⟨w.heap.size + 1, 0, none⟩ = some (.int .i64 0) := by go_simp
    have o1 : w1.cell? ⟨w.heap.size + 1, 1, none⟩ = some (.int .i64 0) := by go_simp
    have o2 : w1.cell? ⟨w.heap.size + 1, 2, none⟩ = some (.bool false) := by go_simp
    have o3 : w1.cell? ⟨w.heap.size + 1, 3, none⟩ = some (.bool false) := by go_simp
    have o4 : w1.cell? ⟨w.heap.size + 1, 4, none⟩ = some (.bool false) := by go_simp
    go_wp2_with fail
    refine bodyPost_ret (v := .agg #[.int .i64 0, .int .i64 0, .bool false, .bool false, .bool false]) (by simp only [results, Try.results17]; go_simp) rfl ⟨rfl, ?_⟩
    (repeat (first | with_reducible exact t1 | (with_reducible refine Below.setCell ?_ ?_ _) | (with_reducible refine Below.alloc ?_ ?_ _) | with_reducible refine Below.drew ?_)); (all_goals (first | omega | (simp <;> omega)))
  · have HL := l2Less_any t v r wr k rd wt st
    generalize lessT t v r wr k = q1 at HL ⊢
    generalize lessV t v r wr k = q2 at HL ⊢
    generalize lessR t v r wr k rd = q3 at HL ⊢
    generalize lessW t v r wr k wt st = q4 at HL ⊢
    generalize lessK t v r wr k st = q5 at HL ⊢
    have HL' := hid HL
    clear HL
    go_enter Try.func17, Try.ntmps17
    go_wp2_with fail
    refine (srightOk_any _ _ _ _ _ _).mono ?_
    rintro e w1 ⟨rfl, b1⟩
    have z1 := b1.size
    try simp at z1
    have z1_0 : w.heap.size < w1.heap.size := by omega
    have z1_1 : w.heap.size + 1 < w1.heap.size := by omega
    have t1 : Below w.heap.size w w1 := by
      refine Below.trans ?_ (b1.mono ?_)
      · (repeat (first | with_reducible exact t0 | (with_reducible refine Below.setCell ?_ ?_ _) | (with_reducible refine Below.alloc ?_ ?_ _) | with_reducible refine Below.drew ?_)); (all_goals (first | omega | (simp <;> omega)))
      · first | omega | (simp <;> omega)
    obtain ⟨c1, f1⟩ := bcell b1
    clear b1
    go_wp2_with fail
    refine (HL'.out _ e1).mono ?_
    rintro e w2 ⟨rfl, b2⟩
    have z2 := b2.size
    try simp at z2
    have z2_0 : w.heap.size < w2.heap.size := by omega
    have z2_1 : w.heap.size + 1 < w2.heap.size := by omega
    have t2 : Below w.heap.size w w2 := by
      refine Below.trans ?_ (b2.mono ?_)
      · (repeat (first | with_reducible exact t1 | (with_reducible refine Below.setCell ?_ ?_ _) | (with_reducible refine Below.alloc ?_ ?_ _) | with_reducible refine Below.drew ?_)); (all_goals (first | omega | (simp <;> omega)))
      · first | omega | (simp <;> omega)
    obtain ⟨c2, f2⟩ := bcell b2
    have o0 : w2.cell? ⟨w.heap.size + 1, 0, none⟩ = some (.int .i64 0) := by go_simp
    have o1 : w2.cell? ⟨w.heap.size + 1, 1, none⟩ = some (.int .i64 0) := by go_simp
    have o2 : w2.cell? ⟨w.heap.size + 1, 2, none⟩ = some (.bool false) := by go_simp
    have o3 : w2.cell? ⟨w.heap.size + 1, 3, none⟩ = some (.bool false) := by go_simp
    have o4 : w2.cell? ⟨w.heap.size + 1, 4, none⟩ = some (.bool false) := by go_simp
    go_wp2_with fail
    refine bodyPost_ret (v := .agg #[.int .i64 q1, .int .i64 q2, .bool q3, .bool q4, .bool q5]) (by simp only [results, Try.results17]; go_simp) rfl ⟨rfl, ?_⟩
    (repeat (first | with_reducible exact t2 | (with_reducible refine Below.setCell ?_ ?_ _) | (with_reducible refine Below.alloc ?_ ?_ _) | with_reducible refine Below.drew ?_)); (all_goals (first | omega | (simp <;> omega)))
end Go.Proofs.Ytccghhfiidodnaa
