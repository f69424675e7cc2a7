/- Contracts of errors.Is and errors.Join where each error is nil or one and the same sentinel of errors.New's make. (After the guide's SentryIs.lean.) No condition but what the cells hold. -/
import Derived.Test.YtehnnnopjghbpaaDoorOk
import Derived.Test.YtehnnnopjghbpaaDoorInv
import Derived.LaidEql
import Derived.Stop.Asserts
import Derived.RowKitTokens
import Derived.LoopN
import Derived.Deep.RegionLaw
namespace Go.Proofs.YtehnnnopjghbpaaDoor
set_option maxRecDepth 100000
open Go.RowKit Go.Extern.Stop Go.Stop Go.Extern
set_option linter.unusedVariables false

theorem isTypeOf (v : Value) (w : World) : (Extern.ReflectliteType.typeOf #[.iface 79 v]).run Tryd.prog w = .ok (.iface 70 (.agg #[.pointer (some ⟨4, 79, none⟩)])) w := by kernel_rfl
/-- The model's own entry for a type's 'Comparable', whatever it is. -/
noncomputable def cmpEntry : Array Value → Sem Value := (Extern.find Tryd.f65).getD fun _ => pure undef
theorem isComparable (w : World) : (cmpEntry #[.agg #[.pointer (some ⟨4, 79, none⟩)]]).run Tryd.prog w = .ok (.bool true) w := by kernel_rfl
theorem isMethodComparable (v : Value) (w : World) : (Go.method 233 70 v "Comparable").run Tryd.prog w = .ok (65, v) w := by kernel_rfl
theorem isComp : (Tryd.prog.info? 79).map (·.comparable) = some true := by kernel_rfl
theorem isSize : (Tryd.prog.info? 121).map (·.size) = some 1 := by kernel_rfl
theorem noIsJ (v : Value) (xT : TypeId) (w : World) : (Instr.typeAssert (.iface 66 v) xT 72 true).run Tryd.prog w = .ok (.tuple #[.nilIface, .bool false]) w := run_typeAssert_lacksB Tryd.underlying72 (by kernel_rfl) (by kernel_rfl) v xT w
theorem noUnwrapJ (v : Value) (xT : TypeId) (w : World) : (Instr.typeAssert (.iface 66 v) xT 75 true).run Tryd.prog w = .ok (.tuple #[.nilIface, .bool false]) w := run_typeAssert_lacksB Tryd.underlying75 (by kernel_rfl) (by kernel_rfl) v xT w
theorem hasUnwrapsJ (v : Value) (xT : TypeId) (w : World) : (Instr.typeAssert (.iface 66 v) xT 77 true).run Tryd.prog w = .ok (.tuple #[.iface 66 v, .bool true]) w := run_typeAssert_hasB Tryd.underlying77 (by kernel_rfl) v xT w
theorem methodUnwrapJ (v : Value) (w : World) : (Go.method 233 66 v "Unwrap").run Tryd.prog w = .ok (61, v) w := by kernel_rfl
theorem eis_same (a : Addr) (w : World) :
    Calls Tryd.prog 26 #[.iface 79 (.pointer (some a)), .iface 79 (.pointer (some a)), .bool true] w fun e w' => e = .returned (.bool true) ∧ w = w' := by
  obtain ⟨i, hi, hcmp⟩ := Option.map_eq_some_iff.1 isComp
  obtain ⟨j, hj, hjs⟩ := Option.map_eq_some_iff.1 isSize
  have heq := run_eql_iface_ptr_same (P := Tryd.prog) w a Tryd.underlying42 Tryd.underlying79 hi hcmp hj
  go_enter Tryd.func26, Tryd.ntmps26
  go_wp2
  refine wp_loop_rounds 1 ?_
  rw [rounds_succ]
  go_wp2
  go_ret
  exact ⟨rfl, rfl⟩
theorem unwrap_join (pj q n cap : Nat) (w : World) (h0 : w.cell? ⟨pj, 0, none⟩ = some (.slice (some ⟨q, 0, none⟩) n cap)) :
    Calls Tryd.prog 61 #[.pointer (some ⟨pj, 0, none⟩)] w fun e w' => e = .returned (.slice (some ⟨q, 0, none⟩) n cap) ∧ w = w' := by
  go_enter Tryd.func61, Tryd.ntmps61
  go_wp2
  go_ret
  exact ⟨rfl, rfl⟩
theorem eis_join (pj q n cap : Nat) (b : Addr) (w : World) (h0 : w.cell? ⟨pj, 0, none⟩ = some (.slice (some ⟨q, 0, none⟩) n cap)) (h1 : w.cell? ⟨q, 0, none⟩ = some (.iface 79 (.pointer (some b)))) (hn : 0 < n) :
    Calls Tryd.prog 26 #[.iface 66 (.pointer (some ⟨pj, 0, none⟩)), .iface 79 (.pointer (some b)), .bool true] w fun e w' => e = .returned (.bool true) ∧ w = w' := by
  have nI := noIsJ
  have nU := noUnwrapJ
  have hU := hasUnwrapsJ
  have mU := methodUnwrapJ
  have hty := run_eql_iface_types (P := Tryd.prog) 66 79 (.pointer (some ⟨pj, 0, none⟩)) (.pointer (some b)) Tryd.underlying42 (by decide) w
  go_enter Tryd.func26, Tryd.ntmps26
  go_wp2
  refine wp_loop_rounds 1 ?_
  rw [rounds_succ]
  go_wp2_with fail
  refine (unwrap_join pj q n cap _ h0).mono ?_
  rintro e w' ⟨rfl, rfl⟩
  go_wp2_with fail
  refine wp_loop_rounds 1 ?_
  rw [rounds_succ]
  go_wp2_with fail
  refine (eis_same b _).mono ?_
  rintro e w' ⟨rfl, rfl⟩
  go_wp2_with fail
  go_ret
  exact ⟨rfl, rfl⟩
theorem eIs_nil (b : Addr) (w : World) :
    Calls Tryd.prog 19 #[.nilIface, .iface 79 (.pointer (some b))] w fun e w' => e = .returned (.bool false) ∧ w = w' := by
  have hn := run_eql_iface_nil_left (P := Tryd.prog) w 79 (.pointer (some b)) Tryd.underlying42
  go_enter Tryd.func19, Tryd.ntmps19
  go_wp2_with fail
  go_ret
  exact ⟨rfl, rfl⟩
theorem eIs_same (b : Addr) (w : World) :
    Calls Tryd.prog 19 #[.iface 79 (.pointer (some b)), .iface 79 (.pointer (some b))] w fun e w' => e = .returned (.bool true) ∧ w = w' := by
  have h8 := @run_callFunc_extern Tryd.prog 25 _ Extern.ReflectliteType.typeOf Tryd.func25 (by kernel_rfl) (by kernel_rfl) (by kernel_rfl) (by kernel_rfl)
  have h32 := @run_callFunc_extern Tryd.prog 65 _ cmpEntry Tryd.func65 (by kernel_rfl) (by kernel_rfl) (by kernel_rfl) (by kernel_rfl)
  have tT := isTypeOf
  have cT := isComparable
  have mR := isMethodComparable
  go_enter Tryd.func19, Tryd.ntmps19
  go_wp2_with fail
  refine (eis_same b _).mono ?_
  rintro e w' ⟨rfl, rfl⟩
  go_wp2_with fail
  go_ret
  exact ⟨rfl, rfl⟩
theorem eIs_join (pj q n cap : Nat) (b : Addr) (w : World) (h0 : w.cell? ⟨pj, 0, none⟩ = some (.slice (some ⟨q, 0, none⟩) n cap)) (h1 : w.cell? ⟨q, 0, none⟩ = some (.iface 79 (.pointer (some b)))) (hn : 0 < n) :
    Calls Tryd.prog 19 #[.iface 66 (.pointer (some ⟨pj, 0, none⟩)), .iface 79 (.pointer (some b))] w fun e w' => e = .returned (.bool true) ∧ w = w' := by
  have h8 := @run_callFunc_extern Tryd.prog 25 _ Extern.ReflectliteType.typeOf Tryd.func25 (by kernel_rfl) (by kernel_rfl) (by kernel_rfl) (by kernel_rfl)
  have h32 := @run_callFunc_extern Tryd.prog 65 _ cmpEntry Tryd.func65 (by kernel_rfl) (by kernel_rfl) (by kernel_rfl) (by kernel_rfl)
  have tT := isTypeOf
  have cT := isComparable
  have mR := isMethodComparable
  have H := hid (eis_join pj q n cap b w h0 h1 hn)
  clear h0 h1 hn
  go_enter Tryd.func19, Tryd.ntmps19
  go_wp2_with fail
  refine (H.out).mono ?_
  rintro e w' ⟨rfl, rfl⟩
  go_wp2_with fail
  go_ret
  exact ⟨rfl, rfl⟩
theorem eJoin_nil (q cap : Nat) (w : World) (h0 : w.cell? ⟨q, 0, none⟩ = some .nilIface) (h1 : w.cell? ⟨q, 1, none⟩ = some .nilIface) (h2 : w.cell? ⟨q, 2, none⟩ = some .nilIface) :
    Calls Tryd.prog 24 #[.slice (some ⟨q, 0, none⟩) 3 cap] w fun e w' => e = .returned .nilIface ∧ w = w' := by
  go_enter Tryd.func24, Tryd.ntmps24
  go_wp2_with fail
  refine wp_loop_rounds 4 ?_
  rw [rounds_succ]
  go_wp2
  rw [rounds_succ]
  go_wp2
  rw [rounds_succ]
  go_wp2
  rw [rounds_succ]
  go_wp2
  go_ret
  exact ⟨rfl, rfl⟩
theorem mk1 (w : World) : (Instr.makeSlice 65 (.int .i64 0) (.int .i64 1)).run Tryd.prog w = .ok (.slice (some ⟨w.heap.size, 0, none⟩) 0 1) (w.alloc (.cells #[.nilIface] 42)) := by kernel_rfl
theorem mk2 (w : World) : (Instr.makeSlice 65 (.int .i64 0) (.int .i64 2)).run Tryd.prog w = .ok (.slice (some ⟨w.heap.size, 0, none⟩) 0 2) (w.alloc (.cells #[.nilIface, .nilIface] 42)) := by kernel_rfl
theorem mk3 (w : World) : (Instr.makeSlice 65 (.int .i64 0) (.int .i64 3)).run Tryd.prog w = .ok (.slice (some ⟨w.heap.size, 0, none⟩) 0 3) (w.alloc (.cells #[.nilIface, .nilIface, .nilIface] 42)) := by kernel_rfl
/-- What a join leaves. -/
def Joined (b : Addr) (w : World) (e : Ending) (w' : World) : Prop :=
  ∃ pj q n c : Nat, e = .returned (.iface 66 (.pointer (some ⟨pj, 0, none⟩))) ∧ Below w.heap.size w w' ∧ w'.cell? ⟨pj, 0, none⟩ = some (.slice (some ⟨q, 0, none⟩) n c) ∧ w'.cell? ⟨q, 0, none⟩ = some (.iface 79 (.pointer (some b))) ∧ 0 < n ∧ w.heap.size ≤ pj ∧ w.heap.size ≤ q
set_option maxHeartbeats 2000000 in
theorem eJoin_001 (q cap : Nat) (b : Addr) (w : World) (hq : q < w.heap.size) (h0 : w.cell? ⟨q, 0, none⟩ = some .nilIface) (h1 : w.cell? ⟨q, 1, none⟩ = some .nilIface) (h2 : w.cell? ⟨q, 2, none⟩ = some (.iface 79 (.pointer (some b)))) :
    Calls Tryd.prog 24 #[.slice (some ⟨q, 0, none⟩) 3 cap] w (Joined b w) := by
  have tt : Below w.heap.size w w := Below.refl _ _
  have k1 := mk1
  have g3 : ∀ o1 o2 o3 k, (((w.alloc o1).alloc o2).alloc o3).cell? ⟨q, k, none⟩ = w.cell? ⟨q, k, none⟩ := fun o1 o2 o3 k => by
    rw [World.cell?_alloc_lt _ _ ⟨q, k, none⟩ (by simp; omega), World.cell?_alloc_lt _ _ ⟨q, k, none⟩ (by simp; omega), World.cell?_alloc_lt _ _ ⟨q, k, none⟩ hq]
  have g4 : ∀ o1 o2 o3 o4 k, ((((w.alloc o1).alloc o2).alloc o3).alloc o4).cell? ⟨q, k, none⟩ = w.cell? ⟨q, k, none⟩ := fun o1 o2 o3 o4 k => by
    rw [World.cell?_alloc_lt _ _ ⟨q, k, none⟩ (by simp; omega), g3]
  have g5 : ∀ o1 o2 o3 o4 o5 k, (((((w.alloc o1).alloc o2).alloc o3).alloc o4).alloc o5).cell? ⟨q, k, none⟩ = w.cell? ⟨q, k, none⟩ := fun o1 o2 o3 o4 o5 k => by
    rw [World.cell?_alloc_lt _ _ ⟨q, k, none⟩ (by simp; omega), g4]
  go_enter Tryd.func24, Tryd.ntmps24
  go_wp2_with fail
  refine wp_loop_rounds 4 ?_
  rw [rounds_succ]
  go_wp2
  rw [rounds_succ]
  go_wp2
  rw [rounds_succ]
  go_wp2
  rw [rounds_succ]
  go_wp2
  refine wp_loop_rounds 4 ?_
  rw [rounds_succ]
  go_wp2
  rw [rounds_succ]
  go_wp2
  rw [rounds_succ]
  go_wp2
  rw [rounds_succ]
  go_wp2
  go_ret
  refine ⟨w.heap.size + 1, w.heap.size, 1, 1, rfl, ?_, ?_, ?_, by omega, by omega, by omega⟩
  · have zt := tt.size
    (repeat (first | with_reducible exact tt | (with_reducible refine Below.setCell ?_ ?_ _) | (with_reducible refine Below.alloc ?_ ?_ _) | (with_reducible refine Below.drew ?_) | with_reducible refine Below.drewN' ?_ _)); (all_goals (first | omega | (simp <;> omega)))
  · go_simp
  · go_simp
set_option maxHeartbeats 2000000 in
theorem eJoin_010 (q cap : Nat) (b : Addr) (w : World) (hq : q < w.heap.size) (h0 : w.cell? ⟨q, 0, none⟩ = some .nilIface) (h1 : w.cell? ⟨q, 1, none⟩ = some (.iface 79 (.pointer (some b)))) (h2 : w.cell? ⟨q, 2, none⟩ = some .nilIface) :
    Calls Tryd.prog 24 #[.slice (some ⟨q, 0, none⟩) 3 cap] w (Joined b w) := by
  have tt : Below w.heap.size w w := Below.refl _ _
  have k1 := mk1
  have g3 : ∀ o1 o2 o3 k, (((w.alloc o1).alloc o2).alloc o3).cell? ⟨q, k, none⟩ = w.cell? ⟨q, k, none⟩ := fun o1 o2 o3 k => by
    rw [World.cell?_alloc_lt _ _ ⟨q, k, none⟩ (by simp; omega), World.cell?_alloc_lt _ _ ⟨q, k, none⟩ (by simp; omega), World.cell?_alloc_lt _ _ ⟨q, k, none⟩ hq]
  have g4 : ∀ o1 o2 o3 o4 k, ((((w.alloc o1).alloc o2).alloc o3).alloc o4).cell? ⟨q, k, none⟩ = w.cell? ⟨q, k, none⟩ := fun o1 o2 o3 o4 k => by
    rw [World.cell?_alloc_lt _ _ ⟨q, k, none⟩ (by simp; omega), g3]
  have g5 : ∀ o1 o2 o3 o4 o5 k, (((((w.alloc o1).alloc o2).alloc o3).alloc o4).alloc o5).cell? ⟨q, k, none⟩ = w.cell? ⟨q, k, none⟩ := fun o1 o2 o3 o4 o5 k => by
    rw [World.cell?_alloc_lt _ _ ⟨q, k, none⟩ (by simp; omega), g4]
  go_enter Tryd.func24, Tryd.ntmps24
  go_wp2_with fail
  refine wp_loop_rounds 4 ?_
  rw [rounds_succ]
  go_wp2
  rw [rounds_succ]
  go_wp2
  rw [rounds_succ]
  go_wp2
  rw [rounds_succ]
  go_wp2
  refine wp_loop_rounds 4 ?_
  rw [rounds_succ]
  go_wp2
  rw [rounds_succ]
  go_wp2
  rw [rounds_succ]
  go_wp2
  rw [rounds_succ]
  go_wp2
  go_ret
  refine ⟨w.heap.size + 1, w.heap.size, 1, 1, rfl, ?_, ?_, ?_, by omega, by omega, by omega⟩
  · have zt := tt.size
    (repeat (first | with_reducible exact tt | (with_reducible refine Below.setCell ?_ ?_ _) | (with_reducible refine Below.alloc ?_ ?_ _) | (with_reducible refine Below.drew ?_) | with_reducible refine Below.drewN' ?_ _)); (all_goals (first | omega | (simp <;> omega)))
  · go_simp
  · go_simp
set_option maxHeartbeats 2000000 in
theorem eJoin_011 (q cap : Nat) (b : Addr) (w : World) (hq : q < w.heap.size) (h0 : w.cell? ⟨q, 0, none⟩ = some .nilIface) (h1 : w.cell? ⟨q, 1, none⟩ = some (.iface 79 (.pointer (some b)))) (h2 : w.cell? ⟨q, 2, none⟩ = some (.iface 79 (.pointer (some b)))) :
    Calls Tryd.prog 24 #[.slice (some ⟨q, 0, none⟩) 3 cap] w (Joined b w) := by
  have tt : Below w.heap.size w w := Below.refl _ _
  have k1 := mk2
  have g3 : ∀ o1 o2 o3 k, (((w.alloc o1).alloc o2).alloc o3).cell? ⟨q, k, none⟩ = w.cell? ⟨q, k, none⟩ := fun o1 o2 o3 k => by
    rw [World.cell?_alloc_lt _ _ ⟨q, k, none⟩ (by simp; omega), World.cell?_alloc_lt _ _ ⟨q, k, none⟩ (by simp; omega), World.cell?_alloc_lt _ _ ⟨q, k, none⟩ hq]
  have g4 : ∀ o1 o2 o3 o4 k, ((((w.alloc o1).alloc o2).alloc o3).alloc o4).cell? ⟨q, k, none⟩ = w.cell? ⟨q, k, none⟩ := fun o1 o2 o3 o4 k => by
    rw [World.cell?_alloc_lt _ _ ⟨q, k, none⟩ (by simp; omega), g3]
  have g5 : ∀ o1 o2 o3 o4 o5 k, (((((w.alloc o1).alloc o2).alloc o3).alloc o4).alloc o5).cell? ⟨q, k, none⟩ = w.cell? ⟨q, k, none⟩ := fun o1 o2 o3 o4 o5 k => by
    rw [World.cell?_alloc_lt _ _ ⟨q, k, none⟩ (by simp; omega), g4]
  go_enter Tryd.func24, Tryd.ntmps24
  go_wp2_with fail
  refine wp_loop_rounds 4 ?_
  rw [rounds_succ]
  go_wp2
  rw [rounds_succ]
  go_wp2
  rw [rounds_succ]
  go_wp2
  rw [rounds_succ]
  go_wp2
  refine wp_loop_rounds 4 ?_
  rw [rounds_succ]
  go_wp2
  rw [rounds_succ]
  go_wp2
  rw [rounds_succ]
  go_wp2
  rw [rounds_succ]
  go_wp2
  go_ret
  refine ⟨w.heap.size + 1, w.heap.size, 2, 2, rfl, ?_, ?_, ?_, by omega, by omega, by omega⟩
  · have zt := tt.size
    (repeat (first | with_reducible exact tt | (with_reducible refine Below.setCell ?_ ?_ _) | (with_reducible refine Below.alloc ?_ ?_ _) | (with_reducible refine Below.drew ?_) | with_reducible refine Below.drewN' ?_ _)); (all_goals (first | omega | (simp <;> omega)))
  · go_simp
  · go_simp
set_option maxHeartbeats 2000000 in
theorem eJoin_100 (q cap : Nat) (b : Addr) (w : World) (hq : q < w.heap.size) (h0 : w.cell? ⟨q, 0, none⟩ = some (.iface 79 (.pointer (some b)))) (h1 : w.cell? ⟨q, 1, none⟩ = some .nilIface) (h2 : w.cell? ⟨q, 2, none⟩ = some .nilIface) :
    Calls Tryd.prog 24 #[.slice (some ⟨q, 0, none⟩) 3 cap] w (Joined b w) := by
  have tt : Below w.heap.size w w := Below.refl _ _
  have k1 := mk1
  have g3 : ∀ o1 o2 o3 k, (((w.alloc o1).alloc o2).alloc o3).cell? ⟨q, k, none⟩ = w.cell? ⟨q, k, none⟩ := fun o1 o2 o3 k => by
    rw [World.cell?_alloc_lt _ _ ⟨q, k, none⟩ (by simp; omega), World.cell?_alloc_lt _ _ ⟨q, k, none⟩ (by simp; omega), World.cell?_alloc_lt _ _ ⟨q, k, none⟩ hq]
  have g4 : ∀ o1 o2 o3 o4 k, ((((w.alloc o1).alloc o2).alloc o3).alloc o4).cell? ⟨q, k, none⟩ = w.cell? ⟨q, k, none⟩ := fun o1 o2 o3 o4 k => by
    rw [World.cell?_alloc_lt _ _ ⟨q, k, none⟩ (by simp; omega), g3]
  have g5 : ∀ o1 o2 o3 o4 o5 k, (((((w.alloc o1).alloc o2).alloc o3).alloc o4).alloc o5).cell? ⟨q, k, none⟩ = w.cell? ⟨q, k, none⟩ := fun o1 o2 o3 o4 o5 k => by
    rw [World.cell?_alloc_lt _ _ ⟨q, k, none⟩ (by simp; omega), g4]
  go_enter Tryd.func24, Tryd.ntmps24
  go_wp2_with fail
  refine wp_loop_rounds 4 ?_
  rw [rounds_succ]
  go_wp2
  rw [rounds_succ]
  go_wp2
  rw [rounds_succ]
  go_wp2
  rw [rounds_succ]
  go_wp2
  refine wp_loop_rounds 4 ?_
  rw [rounds_succ]
  go_wp2
  rw [rounds_succ]
  go_wp2
  rw [rounds_succ]
  go_wp2
  rw [rounds_succ]
  go_wp2
  go_ret
  refine ⟨w.heap.size + 1, w.heap.size, 1, 1, rfl, ?_, ?_, ?_, by omega, by omega, by omega⟩
  · have zt := tt.size
    (repeat (first | with_reducible exact tt | (with_reducible refine Below.setCell ?_ ?_ _) | (with_reducible refine Below.alloc ?_ ?_ _) | (with_reducible refine Below.drew ?_) | with_reducible refine Below.drewN' ?_ _)); (all_goals (first | omega | (simp <;> omega)))
  · go_simp
  · go_simp
set_option maxHeartbeats 2000000 in
theorem eJoin_101 (q cap : Nat) (b : Addr) (w : World) (hq : q < w.heap.size) (h0 : w.cell? ⟨q, 0, none⟩ = some (.iface 79 (.pointer (some b)))) (h1 : w.cell? ⟨q, 1, none⟩ = some .nilIface) (h2 : w.cell? ⟨q, 2, none⟩ = some (.iface 79 (.pointer (some b)))) :
    Calls Tryd.prog 24 #[.slice (some ⟨q, 0, none⟩) 3 cap] w (Joined b w) := by
  have tt : Below w.heap.size w w := Below.refl _ _
  have k1 := mk2
  have g3 : ∀ o1 o2 o3 k, (((w.alloc o1).alloc o2).alloc o3).cell? ⟨q, k, none⟩ = w.cell? ⟨q, k, none⟩ := fun o1 o2 o3 k => by
    rw [World.cell?_alloc_lt _ _ ⟨q, k, none⟩ (by simp; omega), World.cell?_alloc_lt _ _ ⟨q, k, none⟩ (by simp; omega), World.cell?_alloc_lt _ _ ⟨q, k, none⟩ hq]
  have g4 : ∀ o1 o2 o3 o4 k, ((((w.alloc o1).alloc o2).alloc o3).alloc o4).cell? ⟨q, k, none⟩ = w.cell? ⟨q, k, none⟩ := fun o1 o2 o3 o4 k => by
    rw [World.cell?_alloc_lt _ _ ⟨q, k, none⟩ (by simp; omega), g3]
  have g5 : ∀ o1 o2 o3 o4 o5 k, (((((w.alloc o1).alloc o2).alloc o3).alloc o4).alloc o5).cell? ⟨q, k, none⟩ = w.cell? ⟨q, k, none⟩ := fun o1 o2 o3 o4 o5 k => by
    rw [World.cell?_alloc_lt _ _ ⟨q, k, none⟩ (by simp; omega), g4]
  go_enter Tryd.func24, Tryd.ntmps24
  go_wp2_with fail
  refine wp_loop_rounds 4 ?_
  rw [rounds_succ]
  go_wp2
  rw [rounds_succ]
  go_wp2
  rw [rounds_succ]
  go_wp2
  rw [rounds_succ]
  go_wp2
  refine wp_loop_rounds 4 ?_
  rw [rounds_succ]
  go_wp2
  rw [rounds_succ]
  go_wp2
  rw [rounds_succ]
  go_wp2
  rw [rounds_succ]
  go_wp2
  go_ret
  refine ⟨w.heap.size + 1, w.heap.size, 2, 2, rfl, ?_, ?_, ?_, by omega, by omega, by omega⟩
  · have zt := tt.size
    (repeat (first | with_reducible exact tt | (with_reducible refine Below.setCell ?_ ?_ _) | (with_reducible refine Below.alloc ?_ ?_ _) | (with_reducible refine Below.drew ?_) | with_reducible refine Below.drewN' ?_ _)); (all_goals (first | omega | (simp <;> omega)))
  · go_simp
  · go_simp
set_option maxHeartbeats 2000000 in
theorem eJoin_110 (q cap : Nat) (b : Addr) (w : World) (hq : q < w.heap.size) (h0 : w.cell? ⟨q, 0, none⟩ = some (.iface 79 (.pointer (some b)))) (h1 : w.cell? ⟨q, 1, none⟩ = some (.iface 79 (.pointer (some b)))) (h2 : w.cell? ⟨q, 2, none⟩ = some .nilIface) :
    Calls Tryd.prog 24 #[.slice (some ⟨q, 0, none⟩) 3 cap] w (Joined b w) := by
  have tt : Below w.heap.size w w := Below.refl _ _
  have k1 := mk2
  have g3 : ∀ o1 o2 o3 k, (((w.alloc o1).alloc o2).alloc o3).cell? ⟨q, k, none⟩ = w.cell? ⟨q, k, none⟩ := fun o1 o2 o3 k => by
    rw [World.cell?_alloc_lt _ _ ⟨q, k, none⟩ (by simp; omega), World.cell?_alloc_lt _ _ ⟨q, k, none⟩ (by simp; omega), World.cell?_alloc_lt _ _ ⟨q, k, none⟩ hq]
  have g4 : ∀ o1 o2 o3 o4 k, ((((w.alloc o1).alloc o2).alloc o3).alloc o4).cell? ⟨q, k, none⟩ = w.cell? ⟨q, k, none⟩ := fun o1 o2 o3 o4 k => by
    rw [World.cell?_alloc_lt _ _ ⟨q, k, none⟩ (by simp; omega), g3]
  have g5 : ∀ o1 o2 o3 o4 o5 k, (((((w.alloc o1).alloc o2).alloc o3).alloc o4).alloc o5).cell? ⟨q, k, none⟩ = w.cell? ⟨q, k, none⟩ := fun o1 o2 o3 o4 o5 k => by
    rw [World.cell?_alloc_lt _ _ ⟨q, k, none⟩ (by simp; omega), g4]
  go_enter Tryd.func24, Tryd.ntmps24
  go_wp2_with fail
  refine wp_loop_rounds 4 ?_
  rw [rounds_succ]
  go_wp2
  rw [rounds_succ]
  go_wp2
  rw [rounds_succ]
  go_wp2
  rw [rounds_succ]
  go_wp2
  refine wp_loop_rounds 4 ?_
  rw [rounds_succ]
  go_wp2
  rw [rounds_succ]
  go_wp2
  rw [rounds_succ]
  go_wp2
  rw [rounds_succ]
  go_wp2
  go_ret
  refine ⟨w.heap.size + 1, w.heap.size, 2, 2, rfl, ?_, ?_, ?_, by omega, by omega, by omega⟩
  · have zt := tt.size
    (repeat (first | with_reducible exact tt | (with_reducible refine Below.setCell ?_ ?_ _) | (with_reducible refine Below.alloc ?_ ?_ _) | (with_reducible refine Below.drew ?_) | with_reducible refine Below.drewN' ?_ _)); (all_goals (first | omega | (simp <;> omega)))
  · go_simp
  · go_simp
set_option maxHeartbeats 2000000 in
theorem eJoin_111 (q cap : Nat) (b : Addr) (w : World) (hq : q < w.heap.size) (h0 : w.cell? ⟨q, 0, none⟩ = some (.iface 79 (.pointer (some b)))) (h1 : w.cell? ⟨q, 1, none⟩ = some (.iface 79 (.pointer (some b)))) (h2 : w.cell? ⟨q, 2, none⟩ = some (.iface 79 (.pointer (some b)))) :
    Calls Tryd.prog 24 #[.slice (some ⟨q, 0, none⟩) 3 cap] w (Joined b w) := by
  have tt : Below w.heap.size w w := Below.refl _ _
  have k1 := mk3
  have g3 : ∀ o1 o2 o3 k, (((w.alloc o1).alloc o2).alloc o3).cell? ⟨q, k, none⟩ = w.cell? ⟨q, k, none⟩ := fun o1 o2 o3 k => by
    rw [World.cell?_alloc_lt _ _ ⟨q, k, none⟩ (by simp; omega), World.cell?_alloc_lt _ _ ⟨q, k, none⟩ (by simp; omega), World.cell?_alloc_lt _ _ ⟨q, k, none⟩ hq]
  have g4 : ∀ o1 o2 o3 o4 k, ((((w.alloc o1).alloc o2).alloc o3).alloc o4).cell? ⟨q, k, none⟩ = w.cell? ⟨q, k, none⟩ := fun o1 o2 o3 o4 k => by
    rw [World.cell?_alloc_lt _ _ ⟨q, k, none⟩ (by simp; omega), g3]
  have g5 : ∀ o1 o2 o3 o4 o5 k, (((((w.alloc o1).alloc o2).alloc o3).alloc o4).alloc o5).cell? ⟨q, k, none⟩ = w.cell? ⟨q, k, none⟩ := fun o1 o2 o3 o4 o5 k => by
    rw [World.cell?_alloc_lt _ _ ⟨q, k, none⟩ (by simp; omega), g4]
  go_enter Tryd.func24, Tryd.ntmps24
  go_wp2_with fail
  refine wp_loop_rounds 4 ?_
  rw [rounds_succ]
  go_wp2
  rw [rounds_succ]
  go_wp2
  rw [rounds_succ]
  go_wp2
  rw [rounds_succ]
  go_wp2
  refine wp_loop_rounds 4 ?_
  rw [rounds_succ]
  go_wp2
  rw [rounds_succ]
  go_wp2
  rw [rounds_succ]
  go_wp2
  rw [rounds_succ]
  go_wp2
  go_ret
  refine ⟨w.heap.size + 1, w.heap.size, 3, 3, rfl, ?_, ?_, ?_, by omega, by omega, by omega⟩
  · have zt := tt.size
    (repeat (first | with_reducible exact tt | (with_reducible refine Below.setCell ?_ ?_ _) | (with_reducible refine Below.alloc ?_ ?_ _) | (with_reducible refine Below.drew ?_) | with_reducible refine Below.drewN' ?_ _)); (all_goals (first | omega | (simp <;> omega)))
  · go_simp
  · go_simp
end Go.Proofs.YtehnnnopjghbpaaDoor
