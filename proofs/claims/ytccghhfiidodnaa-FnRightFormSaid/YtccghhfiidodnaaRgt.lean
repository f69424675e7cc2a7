/- Contracts of the functions on rights, of the program and of the reference: containment and lessening. Each computes its plain function and makes at most new blocks. No condition. -/
import Derived.Test.YtccghhfiidodnaaOk
import Derived.Test.YtccghhfiidodnaaInv
import Derived.BigRegion
import Derived.RegionTactic
namespace Go.Proofs.Ytccghhfiidodnaa
open Go.RowKit
set_option linter.unusedVariables false

theorem capabilityOf_none (v : Int) (r wr k : Bool) (w : World) :
    Calls Try.prog 24 #[.agg #[.int .i64 0, .int .i64 v, .bool r, .bool wr, .bool k]] w fun e w' => e = .returned (.iface 50 (.agg #[])) ∧ Below w.heap.size w w' := by
  have t0 : Below w.heap.size w w := Below.refl _ _
  go_enter Try.func24, Try.ntmps24
  go_wp2
  go_ret
  refine ⟨rfl, ?_⟩
  (repeat (first | with_reducible exact t0 | (with_reducible refine Below.setCell ?_ ?_ _) | (with_reducible refine Below.alloc ?_ ?_ _) | with_reducible refine Below.drew ?_)); (all_goals (first | omega | (simp <;> omega)))
theorem capabilityOf_some (t v : Int) (r wr k : Bool) (ht : (t == 0) = false) (w : World) :
    Calls Try.prog 24 #[.agg #[.int .i64 t, .int .i64 v, .bool r, .bool wr, .bool k]] w fun e w' => e = .returned (.iface 52 (.agg #[.int .i64 t, .int .i64 v, .bool r, .bool wr, .bool k])) ∧ Below w.heap.size w w' := by
  have t0 : Below w.heap.size w w := Below.refl _ _
  go_enter Try.func24, Try.ntmps24
  go_wp2
  go_ret
  refine ⟨rfl, ?_⟩
  (repeat (first | with_reducible exact t0 | (with_reducible refine Below.setCell ?_ ?_ _) | (with_reducible refine Below.alloc ?_ ?_ _) | with_reducible refine Below.drew ?_)); (all_goals (first | omega | (simp <;> omega)))
theorem assert_ee (v : Value) (w : World) : Sem.run Try.prog (Instr.typeAssert (.iface 50 v) 41 50 true) w = .ok (.tuple #[v, .bool true]) w := by kernel_rfl
theorem assert_oe (v : Value) (w : World) : Sem.run Try.prog (Instr.typeAssert (.iface 52 v) 41 50 true) w = .ok (.tuple #[.agg #[], .bool false]) w := by kernel_rfl
theorem assert_oo (v : Value) (w : World) : Sem.run Try.prog (Instr.typeAssert (.iface 52 v) 41 52 true) w = .ok (.tuple #[v, .bool true]) w := by kernel_rfl
theorem assert_eo (v : Value) (w : World) : Sem.run Try.prog (Instr.typeAssert (.iface 50 v) 41 52 true) w = .ok (.tuple #[.agg #[.int .i64 0, .int .i64 0, .bool false, .bool false, .bool false], .bool false]) w := by kernel_rfl
theorem capabilityIn_none (b : Value) (w : World) :
    Calls Try.prog 23 #[.iface 50 (.agg #[]), b] w fun e w' => e = .returned (.bool true) ∧ Below w.heap.size w w' := by
  have t0 : Below w.heap.size w w := Below.refl _ _
  have a1 := assert_ee
  go_enter Try.func23, Try.ntmps23
  go_wp2
  go_ret
  refine ⟨rfl, ?_⟩
  (repeat (first | with_reducible exact t0 | (with_reducible refine Below.setCell ?_ ?_ _) | (with_reducible refine Below.alloc ?_ ?_ _) | with_reducible refine Below.drew ?_)); (all_goals (first | omega | (simp <;> omega)))
theorem capabilityIn_some (t1 v1 : Int) (r1 w1 k1 : Bool) (w : World) :
    Calls Try.prog 23 #[.iface 52 (.agg #[.int .i64 t1, .int .i64 v1, .bool r1, .bool w1, .bool k1]), .iface 50 (.agg #[])] w fun e w' => e = .returned (.bool false) ∧ Below w.heap.size w w' := by
  have t0 : Below w.heap.size w w := Below.refl _ _
  have a1 := assert_oe
  have a2 := assert_oo
  have a3 := assert_eo
  go_enter Try.func23, Try.ntmps23
  go_wp2
  go_ret
  refine ⟨rfl, ?_⟩
  (repeat (first | with_reducible exact t0 | (with_reducible refine Below.setCell ?_ ?_ _) | (with_reducible refine Below.alloc ?_ ?_ _) | with_reducible refine Below.drew ?_)); (all_goals (first | omega | (simp <;> omega)))
set_option maxHeartbeats 4000000 in
theorem capabilityIn_both (t1 v1 : Int) (r1 w1 k1 : Bool) (t2 v2 : Int) (r2 w2 k2 : Bool) (ht : (t1 == 0) = false) (w : World) :
    Calls Try.prog 23 #[.iface 52 (.agg #[.int .i64 t1, .int .i64 v1, .bool r1, .bool w1, .bool k1]), .iface 52 (.agg #[.int .i64 t2, .int .i64 v2, .bool r2, .bool w2, .bool k2])] w fun e w' => e = .returned (.bool (rgtIn t1 v1 r1 w1 k1 t2 v2 r2 w2 k2)) ∧ Below w.heap.size w w' := by
  have t0 : Below w.heap.size w w := Below.refl _ _
  have a1 := assert_oe
  have a2 := assert_oo
  go_enter Try.func23, Try.ntmps23
  go_wp2
  go_region
  all_goals go_wp2
  all_goals
    go_ret
    refine ⟨ret_bool (by simp_all [rgtIn]), ?_⟩
    (repeat (first | with_reducible exact t0 | (with_reducible refine Below.setCell ?_ ?_ _) | (with_reducible refine Below.alloc ?_ ?_ _) | with_reducible refine Below.drew ?_)); (all_goals (first | omega | (simp <;> omega)))
theorem less_none (rd wr st : Bool) (w : World) :
    Calls Try.prog 45 #[.agg #[], .bool rd, .bool wr, .bool st] w fun e w' => e = .returned (.agg #[.int .i64 0, .int .i64 0, .bool false, .bool false, .bool false]) ∧ Below w.heap.size w w' := by
  have t0 : Below w.heap.size w w := Below.refl _ _
  go_enter Try.func45, Try.ntmps45
  go_wp2
  refine bodyPost_ret (v := .agg #[.int .i64 0, .int .i64 0, .bool false, .bool false, .bool false]) (by simp [results, Try.results45, go_sem]) rfl ⟨rfl, ?_⟩
  (repeat (first | with_reducible exact t0 | (with_reducible refine Below.setCell ?_ ?_ _) | (with_reducible refine Below.alloc ?_ ?_ _) | with_reducible refine Below.drew ?_)); (all_goals (first | omega | (simp <;> omega)))
theorem less_some (t v : Int) (r wr k rd wt st : Bool) (w : World) :
    Calls Try.prog 47 #[.agg #[.int .i64 t, .int .i64 v, .bool r, .bool wr, .bool k], .bool rd, .bool wt, .bool st] w fun e w' => e = .returned (.agg #[.int .i64 t, .int .i64 v, .bool (r && rd), .bool (wr && wt && st), .bool (k || !st)]) ∧ Below w.heap.size w w' := by
  have t0 : Below w.heap.size w w := Below.refl _ _
  go_enter Try.func47, Try.ntmps47
  go_wp2
  all_goals
    refine bodyPost_ret (v := .agg #[.int .i64 t, .int .i64 v, .bool (r && rd), .bool (wr && wt && st), .bool (k || !st)]) (by simp only [results, Try.results47]; go_simp) rfl ⟨rfl, ?_⟩
    (repeat (first | with_reducible exact t0 | (with_reducible refine Below.setCell ?_ ?_ _) | (with_reducible refine Below.alloc ?_ ?_ _) | with_reducible refine Below.drew ?_)); (all_goals (first | omega | (simp <;> omega)))
theorem method_none (v : Value) (w : World) : (method 174 50 v "loop.example/drawbar/impl.less").run Try.prog w = .ok (45, v) w := by kernel_rfl
theorem method_some (v : Value) (w : World) : (method 174 52 v "loop.example/drawbar/impl.less").run Try.prog w = .ok (47, v) w := by kernel_rfl
set_option maxHeartbeats 4000000 in
theorem rightLess_any (t v : Int) (r wr k rd wt st : Bool) (w : World) :
    Calls Try.prog 18 #[.agg #[.int .i64 t, .int .i64 v, .bool r, .bool wr, .bool k], .bool rd, .bool wt, .bool st] w fun e w' => e = .returned (.agg #[.int .i64 (lessT t v r wr k), .int .i64 (lessV t v r wr k), .bool (lessR t v r wr k rd), .bool (lessW t v r wr k wt st), .bool (lessK t v r wr k st)]) ∧ Below w.heap.size w w' := by
  have t0 : Below w.heap.size w w := Below.refl _ _
  have hm1 := method_none
  have hm2 := method_some
  cases e1 : rgtOk t v r wr k
  · have p1 : lessT t v r wr k = 0 := by simp [lessT, e1]
    have p2 : lessV t v r wr k = 0 := by simp [lessV, e1]
    have p3 : lessR t v r wr k rd = false := by simp [lessR, e1]
    have p4 : lessW t v r wr k wt st = false := by simp [lessW, e1]
    have p5 : lessK t v r wr k st = false := by simp [lessK, e1]
    rw [p1, p2, p3, p4, p5]
    clear p1 p2 p3 p4 p5
    go_enter Try.func18, Try.ntmps18
    go_wp2_with fail
    refine (rightOk_any _ _ _ _ _ _).mono ?_
    rintro e w1 ⟨rfl, b1⟩
    have z1 := b1.size
    try simp at z1
    have z1_0 : w.heap.size < w1.heap.size := by omega
    have z1_1 : w.heap.size + 1 < w1.heap.size := by omega
    have t1 : Below w.heap.size w w1 := by
      refine Below.trans ?_ (b1.mono ?_)
      · (repeat (first | with_reducible exact t0 | (with_reducible refine Below.setCell ?_ ?_ _) | (with_reducible refine Below.alloc ?_ ?_ _) | with_reducible refine Below.drew ?_)); (all_goals (first | omega | (simp <;> omega)))
      · first | omega | (simp <;> omega)
    obtain ⟨c1, f1⟩ := bcell b1
    have o0 : w1.cell? ⟨w.heap.size + 1, 0, none⟩ = some (.int .i64 0) := by go_simp
    have o1 : w1.cell? ⟨w.heap.size + 1, 1, none⟩ = some (.int .i64 0) := by go_simp
    have o2 : w1.cell? ⟨w.heap.size + 1, 2, none⟩ = some (.bool false) := by go_simp
    have o3 : w1.cell? ⟨w.heap.size + 1, 3, none⟩ = some (.bool false) := by go_simp
    have o4 : w1.cell? ⟨w.heap.size + 1, 4, none⟩ = some (.bool false) := by go_simp
    go_wp2_with fail
    refine bodyPost_ret (v := .agg #[.int .i64 0, .int .i64 0, .bool false, .bool false, .bool false]) (by simp only [results, Try.results18]; go_simp) rfl ⟨rfl, ?_⟩
    (repeat (first | with_reducible exact t1 | (with_reducible refine Below.setCell ?_ ?_ _) | (with_reducible refine Below.alloc ?_ ?_ _) | with_reducible refine Below.drew ?_)); (all_goals (first | omega | (simp <;> omega)))
  · cases e2 : (t == 0)
    · have ht : ¬ t = 0 := by simpa using e2
      have p1 : lessT t v r wr k = t := by simp [lessT, e1]
      have p2 : lessV t v r wr k = v := by simp [lessV, e1]
      have p3 : lessR t v r wr k rd = (r && rd) := by simp [lessR, e1]
      have p4 : lessW t v r wr k wt st = (wr && wt && st) := by simp [lessW, e1]
      have p5 : lessK t v r wr k st = (k || !st) := by simp [lessK, e1, ht]
      rw [p1, p2, p3, p4, p5]
      clear p1 p2 p3 p4 p5 ht
      generalize hR : (r && rd) = R
      generalize hW : (wr && wt && st) = Wr
      generalize hK : (k || !st) = Kk
      have HR := hid hR
      have HW := hid hW
      have HK := hid hK
      clear hR hW hK
      go_enter Try.func18, Try.ntmps18
      go_wp2_with fail
      refine (rightOk_any _ _ _ _ _ _).mono ?_
      rintro e w1 ⟨rfl, b1⟩
      have z1 := b1.size
      try simp at z1
      have z1_0 : w.heap.size < w1.heap.size := by omega
      have z1_1 : w.heap.size + 1 < w1.heap.size := by omega
      have t1 : Below w.heap.size w w1 := by
        refine Below.trans ?_ (b1.mono ?_)
        · (repeat (first | with_reducible exact t0 | (with_reducible refine Below.setCell ?_ ?_ _) | (with_reducible refine Below.alloc ?_ ?_ _) | with_reducible refine Below.drew ?_)); (all_goals (first | omega | (simp <;> omega)))
        · first | omega | (simp <;> omega)
      obtain ⟨c1, f1⟩ := bcell b1
      clear b1
      go_wp2_with fail
      refine (capabilityOf_some _ _ _ _ _ e2 _).mono ?_
      rintro e w2 ⟨rfl, b2⟩
      have z2 := b2.size
      try simp at z2
      have z2_0 : w.heap.size < w2.heap.size := by omega
      have z2_1 : w.heap.size + 1 < w2.heap.size := by omega
      have t2 : Below w.heap.size w w2 := by
        refine Below.trans ?_ (b2.mono ?_)
        · (repeat (first | with_reducible exact t1 | (with_reducible refine Below.setCell ?_ ?_ _) | (with_reducible refine Below.alloc ?_ ?_ _) | with_reducible refine Below.drew ?_)); (all_goals (first | omega | (simp <;> omega)))
        · first | omega | (simp <;> omega)
      obtain ⟨c2, f2⟩ := bcell b2
      clear b2
      go_wp2_with fail
      refine (less_some _ _ _ _ _ _ _ _ _).mono ?_
      rw [HR.out, HW.out, HK.out]
      rintro e w3 ⟨rfl, b3⟩
      have z3 := b3.size
      have t3 : Below w.heap.size w w3 := t2.trans (b3.mono (by omega))
      obtain ⟨c3, f3⟩ := bcell b3
      have o0 : w3.cell? ⟨w.heap.size + 1, 0, none⟩ = some (.int .i64 0) := by go_simp
      have o1 : w3.cell? ⟨w.heap.size + 1, 1, none⟩ = some (.int .i64 0) := by go_simp
      have o2 : w3.cell? ⟨w.heap.size + 1, 2, none⟩ = some (.bool false) := by go_simp
      have o3 : w3.cell? ⟨w.heap.size + 1, 3, none⟩ = some (.bool false) := by go_simp
      have o4 : w3.cell? ⟨w.heap.size + 1, 4, none⟩ = some (.bool false) := by go_simp
      go_wp2_with fail
      refine bodyPost_ret (v := .agg #[.int .i64 t, .int .i64 v, .bool R, .bool Wr, .bool Kk]) (by simp only [results, Try.results18]; go_simp) rfl ⟨rfl, ?_⟩
      (repeat (first | with_reducible exact t3 | (with_reducible refine Below.setCell ?_ ?_ _) | (with_reducible refine Below.alloc ?_ ?_ _) | with_reducible refine Below.drew ?_)); (all_goals (first | omega | (simp <;> omega)))
    · obtain rfl : t = 0 := by simpa using e2
      have hn : v = 0 ∧ r = false ∧ wr = false ∧ k = false := by simp [rgtOk, rgtNull, inB] at e1; simp_all
      obtain ⟨rfl, rfl, rfl, rfl⟩ := hn
      have p1 : lessT 0 0 false false false = 0 := by simp [lessT]
      have p2 : lessV 0 0 false false false = 0 := by simp [lessV]
      have p3 : lessR 0 0 false false false rd = false := by simp [lessR]
      have p4 : lessW 0 0 false false false wt st = false := by simp [lessW]
      have p5 : lessK 0 0 false false false st = false := by simp [lessK]
      rw [p1, p2, p3, p4, p5]
      clear p1 p2 p3 p4 p5 e2
      go_enter Try.func18, Try.ntmps18
      go_wp2_with fail
      refine (rightOk_any _ _ _ _ _ _).mono ?_
      rintro e w1 ⟨rfl, b1⟩
      have z1 := b1.size
      try simp at z1
      have z1_0 : w.heap.size < w1.heap.size := by omega
      have z1_1 : w.heap.size + 1 < w1.heap.size := by omega
      have t1 : Below w.heap.size w w1 := by
        refine Below.trans ?_ (b1.mono ?_)
        · (repeat (first | with_reducible exact t0 | (with_reducible refine Below.setCell ?_ ?_ _) | (with_reducible refine Below.alloc ?_ ?_ _) | with_reducible refine Below.drew ?_)); (all_goals (first | omega | (simp <;> omega)))
        · first | omega | (simp <;> omega)
      obtain ⟨c1, f1⟩ := bcell b1
      clear b1
      go_wp2_with fail
      refine (capabilityOf_none _ _ _ _ _).mono ?_
      rintro e w2 ⟨rfl, b2⟩
      have z2 := b2.size
      try simp at z2
      have z2_0 : w.heap.size < w2.heap.size := by omega
      have z2_1 : w.heap.size + 1 < w2.heap.size := by omega
      have t2 : Below w.heap.size w w2 := by
        refine Below.trans ?_ (b2.mono ?_)
        · (repeat (first | with_reducible exact t1 | (with_reducible refine Below.setCell ?_ ?_ _) | (with_reducible refine Below.alloc ?_ ?_ _) | with_reducible refine Below.drew ?_)); (all_goals (first | omega | (simp <;> omega)))
        · first | omega | (simp <;> omega)
      obtain ⟨c2, f2⟩ := bcell b2
      clear b2
      go_wp2_with fail
      refine (less_none _ _ _ _).mono ?_
      rintro e w3 ⟨rfl, b3⟩
      have z3 := b3.size
      try simp at z3
      have z3_0 : w.heap.size < w3.heap.size := by omega
      have z3_1 : w.heap.size + 1 < w3.heap.size := by omega
      have t3 : Below w.heap.size w w3 := by
        refine Below.trans ?_ (b3.mono ?_)
        · (repeat (first | with_reducible exact t2 | (with_reducible refine Below.setCell ?_ ?_ _) | (with_reducible refine Below.alloc ?_ ?_ _) | with_reducible refine Below.drew ?_)); (all_goals (first | omega | (simp <;> omega)))
        · first | omega | (simp <;> omega)
      obtain ⟨c3, f3⟩ := bcell b3
      have o0 : w3.cell? ⟨w.heap.size + 1, 0, none⟩ = some (.int .i64 0) := by go_simp
      have o1 : w3.cell? ⟨w.heap.size + 1, 1, none⟩ = some (.int .i64 0) := by go_simp
      have o2 : w3.cell? ⟨w.heap.size + 1, 2, none⟩ = some (.bool false) := by go_simp
      have o3 : w3.cell? ⟨w.heap.size + 1, 3, none⟩ = some (.bool false) := by go_simp
      have o4 : w3.cell? ⟨w.heap.size + 1, 4, none⟩ = some (.bool false) := by go_simp
      go_wp2_with fail
      refine bodyPost_ret (v := .agg #[.int .i64 0, .int .i64 0, .bool false, .bool false, .bool false]) (by simp only [results, Try.results18]; go_simp) rfl ⟨rfl, ?_⟩
      (repeat (first | with_reducible exact t3 | (with_reducible refine Below.setCell ?_ ?_ _) | (with_reducible refine Below.alloc ?_ ?_ _) | with_reducible refine Below.drew ?_)); (all_goals (first | omega | (simp <;> omega)))
end Go.Proofs.Ytccghhfiidodnaa
