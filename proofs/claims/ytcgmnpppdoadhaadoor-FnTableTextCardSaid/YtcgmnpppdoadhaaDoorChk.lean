/- Contracts of who sees and touches what, and of what lives, of the program and of the reference. No condition but where the table lies. -/
import Derived.Test.YtcgmnpppdoadhaaDoorTbl2
import Derived.Test.YtcgmnpppdoadhaaDoorLab
import Derived.BigQuiet
import Derived.Deep.RegionWith
namespace Go.Proofs.YtcgmnpppdoadhaaDoor
set_option maxRecDepth 100000
open Go Go.RowKit
set_option linter.unusedVariables false
set_option linter.unusedSimpArgs false

theorem RowT.get {w : World} {a : Option Addr} {ts : List Th} (h : RowT w a ts) {k : Nat} {t : Th} (hx : ts[k]? = some t) : ∃ b off, a = some ⟨b, off, none⟩ ∧ b < w.heap.size ∧ ∀ u, Below w.heap.size w u → At8 u b (off + k * 8) t := by
  obtain ⟨b, off, t', ha, hx', hb, h8⟩ := h.at (List.getElem?_eq_some_iff.1 hx).1
  rw [hx] at hx'
  cases hx'
  exact ⟨b, off, ha, hb, fun u hu => h8.below hu hb⟩
theorem At8.lab {u : World} {b o : Nat} {t : Th} (h : At8 u b o t) : u.cell? ⟨b, o + 1, none⟩ = some (.int .i64 t.sec) ∧ u.cell? ⟨b, o + 2, none⟩ = some (.int .i64 t.vou) := by
  obtain ⟨_, _, _, _, _, h1, h2, _⟩ := h; exact ⟨h1, h2⟩
theorem At8.knd {u : World} {b o : Nat} {t : Th} (h : At8 u b o t) : u.cell? ⟨b, o, none⟩ = some (.int .i64 t.kind) := by
  obtain ⟨_, _, _, _, h0, _⟩ := h; exact h0
theorem At8.vrs {u : World} {b o : Nat} {t : Th} (h : At8 u b o t) : u.cell? ⟨b, o + 3, none⟩ = some (.int .i64 t.vers) := by
  obtain ⟨_, _, _, _, _, _, _, h3, _⟩ := h; exact h3
theorem wr_small {j m : Nat} (h : j < m) (hm : m ≤ 9223372036854775807) : IntKind.i64.wrap (j : Int) = j := by simp [IntKind.wrap, IntKind.bits, IntKind.signed]; omega
theorem ok_lab {ts : List Th} {k : Nat} {t : Th} (h : tblOk ts = true) (hx : ts[k]? = some t) : lblOk t.sec t.vou = true := by
  unfold tblOk at h
  simp only [Bool.and_eq_true] at h
  have := List.all_eq_true.1 h.1.2 t (List.mem_of_getElem? hx)
  simp only [Bool.and_eq_true] at this
  exact ((thOk_iff _ _ _ _ _ _ _ _).1 this.1).2.1
theorem inB_nat {i : Int} {m : Nat} (h : inB i 1 m = true) : ∃ j : Nat, i = j + 1 ∧ j < m := by
  have : 1 ≤ i ∧ i ≤ m := by simpa [inB] using h
  exact ⟨(i - 1).toNat, by omega, by omega⟩
def flowAt (ts : List Th) (x y : Int) : Bool := match ts[(x - 1).toNat]?, ts[(y - 1).toNat]? with
  | some a, some b => flowB a.sec a.vou b.sec b.vou
  | _, _ => false
theorem flowAt_of {ts : List Th} {i j : Nat} {a b : Th} (h : ts[i]? = some a) (h' : ts[j]? = some b) : flowAt ts (i + 1) (j + 1) = flowB a.sec a.vou b.sec b.vou := by
  unfold flowAt
  rw [show ((i : Int) + 1 - 1).toNat = i by omega, show ((j : Int) + 1 - 1).toNat = j by omega, h, h']
def chkSees (ts : List Th) (run thing : Int) : Bool := tblOk ts && (kindAtB ts run 3 && (inB thing 1 ts.length && flowAt ts thing run))
def chkTouches (ts : List Th) (run thing : Int) : Bool := tblOk ts && (kindAtB ts run 3 && (inB thing 1 ts.length && flowAt ts run thing))
theorem kindAtB_in {ts : List Th} {i k : Int} (h : kindAtB ts i k = true) : inB i 1 ts.length = true := by
  unfold kindAtB at h; simp only [Bool.and_eq_true] at h; exact h.1
def liveB (ts : List Th) (r : Rt) : Bool := inB r.t 1 ts.length && (ts[(r.t - 1).toNat]?).elim false (fun t => t.vers == r.v)
def tblLive (ts : List Th) (r : Rt) : Bool := tblOk ts && (r.ok && liveB ts r)
theorem thingExists_eq (a : Option Addr) (len cap : Nat) (i : Int) (w : World) :
    Calls Tryd.prog 64 #[.slice a len cap, .int .i64 i] w fun e w' => e = .returned (.bool (inB i 1 len)) ∧ w = w' := by
  go_enter Tryd.func64, Tryd.ntmps64
  go_wp2_with (go_at_call 60; refine (inRange_any _ _ _ _).mono ?_; rintro e w' ⟨rfl, rfl⟩)
  go_ret
  exact ⟨rfl, rfl⟩
set_option maxHeartbeats 4000000 in
theorem labelSees_at (a : Option Addr) (cap : Nat) (ts : List Th) (w : World) (hT : RowT w a ts) (i j : Nat) (hi : i < ts.length) (hj : j < ts.length) :
    Calls Tryd.prog 48 #[.slice a ts.length cap, .int .i64 ((j : Int) + 1), .int .i64 ((i : Int) + 1)] w fun e w' => e = .returned (.bool (flowAt ts ((i : Int) + 1) ((j : Int) + 1))) ∧ Below w.heap.size w w' := by
  have hml := hT.len
  have hxi : ts[i]? = some ts[i] := by simp [hi]
  have hxj : ts[j]? = some ts[j] := by simp [hj]
  rw [flowAt_of hxi hxj]
  obtain ⟨b, off, rfl, hb, TI⟩ := hT.get hxi
  obtain ⟨b', off', hab, hb', TJ⟩ := hT.get hxj
  cases hab
  have hwi := wr_small hi hml
  have hwj := wr_small hj hml
  generalize ts[i] = ta at *
  generalize ts[j] = tb at *
  have FI := fun u hu => (TI u hu).lab
  have FJ := fun u hu => (TJ u hu).lab
  clear TI TJ hxi hxj hT
  generalize ts.length = m at *
  go_enter Tryd.func48, Tryd.ntmps48
  go_wp2_with fail
  refine wp_region_quiet_below (by kernel_rfl) (by kernel_rfl) ?_
  repeat (first
    | ((with_reducible apply qskip); (case hw => exact rfl); (intro K hK; go_simp; refine hK _ ?_; clear hK K))
    | ((with_reducible apply qval); (case hw => exact rfl); (case h => (intro u hu; obtain ⟨_, _⟩ := FI u hu; obtain ⟨_, _⟩ := FJ u hu; go_simp; exact rfl)); (intro K hK; go_simp; refine hK _ ?_; clear hK K))
    | ((with_reducible apply qcall); (case hw => exact rfl); (case h => (intro u hu; go_simp; exact ⟨rfl, rfl⟩)); (case hc => (intro u hu; with_reducible exact Calls.in_below hu (labelFlow_any _ _ _ _ _))); (intro K hK; go_simp; refine hK _ ?_; clear hK K)))
  refine wpQuiet_nil ?_
  intro u hu
  go_wp2_with fail
  go_ret
  exact ⟨rfl, hu⟩
set_option maxHeartbeats 4000000 in
theorem labelTouches_at (a : Option Addr) (cap : Nat) (ts : List Th) (w : World) (hT : RowT w a ts) (i j : Nat) (hi : i < ts.length) (hj : j < ts.length) :
    Calls Tryd.prog 49 #[.slice a ts.length cap, .int .i64 ((j : Int) + 1), .int .i64 ((i : Int) + 1)] w fun e w' => e = .returned (.bool (flowAt ts ((j : Int) + 1) ((i : Int) + 1))) ∧ Below w.heap.size w w' := by
  have hml := hT.len
  have hxi : ts[i]? = some ts[i] := by simp [hi]
  have hxj : ts[j]? = some ts[j] := by simp [hj]
  rw [flowAt_of hxj hxi]
  obtain ⟨b, off, rfl, hb, TI⟩ := hT.get hxi
  obtain ⟨b', off', hab, hb', TJ⟩ := hT.get hxj
  cases hab
  have hwi := wr_small hi hml
  have hwj := wr_small hj hml
  generalize ts[i] = ta at *
  generalize ts[j] = tb at *
  have FI := fun u hu => (TI u hu).lab
  have FJ := fun u hu => (TJ u hu).lab
  clear TI TJ hxi hxj hT
  generalize ts.length = m at *
  go_enter Tryd.func49, Tryd.ntmps49
  go_wp2_with fail
  refine wp_region_quiet_below (by kernel_rfl) (by kernel_rfl) ?_
  repeat (first
    | ((with_reducible apply qskip); (case hw => exact rfl); (intro K hK; go_simp; refine hK _ ?_; clear hK K))
    | ((with_reducible apply qval); (case hw => exact rfl); (case h => (intro u hu; obtain ⟨_, _⟩ := FI u hu; obtain ⟨_, _⟩ := FJ u hu; go_simp; exact rfl)); (intro K hK; go_simp; refine hK _ ?_; clear hK K))
    | ((with_reducible apply qcall); (case hw => exact rfl); (case h => (intro u hu; go_simp; exact ⟨rfl, rfl⟩)); (case hc => (intro u hu; with_reducible exact Calls.in_below hu (labelFlow_any _ _ _ _ _))); (intro K hK; go_simp; refine hK _ ?_; clear hK K)))
  refine wpQuiet_nil ?_
  intro u hu
  go_wp2_with fail
  go_ret
  exact ⟨rfl, hu⟩
theorem flowB_ok {s1 v1 s2 v2 : Int} (h1 : lblOk s1 v1 = true) (h2 : lblOk s2 v2 = true) : (subB s1 s2 && subB v2 v1) = flowB s1 v1 s2 v2 := by simp [flowB, h1, h2]
set_option maxHeartbeats 4000000 in
theorem l11Sees_at (a : Option Addr) (cap : Nat) (ts : List Th) (w : World) (hT : RowT w a ts) (i j : Nat) (hi : i < ts.length) (hj : j < ts.length) (hok : tblOk ts = true) :
    Calls Tryd.prog 52 #[.slice a ts.length cap, .int .i64 ((j : Int) + 1), .int .i64 ((i : Int) + 1)] w fun e w' => e = .returned (.bool (flowAt ts ((i : Int) + 1) ((j : Int) + 1))) ∧ Below w.heap.size w w' := by
  have hml := hT.len
  have hxi : ts[i]? = some ts[i] := by simp [hi]
  have hxj : ts[j]? = some ts[j] := by simp [hj]
  rw [flowAt_of hxi hxj]
  obtain ⟨b, off, rfl, hb, TI⟩ := hT.get hxi
  obtain ⟨b', off', hab, hb', TJ⟩ := hT.get hxj
  cases hab
  have hwi := wr_small hi hml
  have hwj := wr_small hj hml
  have hli := ok_lab hok hxi
  have hlj := ok_lab hok hxj
  obtain ⟨p1, p2, p3, p4⟩ := lblOk_bd hli
  obtain ⟨p5, p6, p7, p8⟩ := lblOk_bd hlj
  have C1 := hid (fun u => l1Flow_any _ _ _ _ p1 p2 p3 p4 p5 p6 p7 p8 u)
  rw [flowB_ok hli hlj] at C1
  clear p1 p2 p3 p4 p5 p6 p7 p8 hli hlj hok
  generalize ts[i] = ta at *
  generalize ts[j] = tb at *
  have FI := fun u hu => (TI u hu).lab
  have FJ := fun u hu => (TJ u hu).lab
  clear TI TJ hxi hxj hT
  generalize ts.length = m at *
  go_enter Tryd.func52, Tryd.ntmps52
  go_wp2_with fail
  refine wp_region_quiet_below (by kernel_rfl) (by kernel_rfl) ?_
  repeat (first
    | ((with_reducible apply qskip); (case hw => exact rfl); (intro K hK; go_simp; refine hK _ ?_; clear hK K))
    | ((with_reducible apply qval); (case hw => exact rfl); (case h => (intro u hu; obtain ⟨_, _⟩ := FI u hu; obtain ⟨_, _⟩ := FJ u hu; go_simp; exact rfl)); (intro K hK; go_simp; refine hK _ ?_; clear hK K))
    | ((with_reducible apply qcall); (case hw => exact rfl); (case h => (intro u hu; go_simp; exact ⟨rfl, rfl⟩)); (case hc => (intro u hu; with_reducible exact Calls.in_below hu (C1.out _))); (intro K hK; go_simp; refine hK _ ?_; clear hK K)))
  refine wpQuiet_nil ?_
  intro u hu
  go_wp2_with fail
  go_ret
  exact ⟨rfl, hu⟩
set_option maxHeartbeats 4000000 in
theorem l11Touches_at (a : Option Addr) (cap : Nat) (ts : List Th) (w : World) (hT : RowT w a ts) (i j : Nat) (hi : i < ts.length) (hj : j < ts.length) (hok : tblOk ts = true) :
    Calls Tryd.prog 53 #[.slice a ts.length cap, .int .i64 ((j : Int) + 1), .int .i64 ((i : Int) + 1)] w fun e w' => e = .returned (.bool (flowAt ts ((j : Int) + 1) ((i : Int) + 1))) ∧ Below w.heap.size w w' := by
  have hml := hT.len
  have hxi : ts[i]? = some ts[i] := by simp [hi]
  have hxj : ts[j]? = some ts[j] := by simp [hj]
  rw [flowAt_of hxj hxi]
  obtain ⟨b, off, rfl, hb, TI⟩ := hT.get hxi
  obtain ⟨b', off', hab, hb', TJ⟩ := hT.get hxj
  cases hab
  have hwi := wr_small hi hml
  have hwj := wr_small hj hml
  have hli := ok_lab hok hxi
  have hlj := ok_lab hok hxj
  obtain ⟨p1, p2, p3, p4⟩ := lblOk_bd hli
  obtain ⟨p5, p6, p7, p8⟩ := lblOk_bd hlj
  have C1 := hid (fun u => l1Flow_any _ _ _ _ p5 p6 p7 p8 p1 p2 p3 p4 u)
  rw [flowB_ok hlj hli] at C1
  clear p1 p2 p3 p4 p5 p6 p7 p8 hli hlj hok
  generalize ts[i] = ta at *
  generalize ts[j] = tb at *
  have FI := fun u hu => (TI u hu).lab
  have FJ := fun u hu => (TJ u hu).lab
  clear TI TJ hxi hxj hT
  generalize ts.length = m at *
  go_enter Tryd.func53, Tryd.ntmps53
  go_wp2_with fail
  refine wp_region_quiet_below (by kernel_rfl) (by kernel_rfl) ?_
  repeat (first
    | ((with_reducible apply qskip); (case hw => exact rfl); (intro K hK; go_simp; refine hK _ ?_; clear hK K))
    | ((with_reducible apply qval); (case hw => exact rfl); (case h => (intro u hu; obtain ⟨_, _⟩ := FI u hu; obtain ⟨_, _⟩ := FJ u hu; go_simp; exact rfl)); (intro K hK; go_simp; refine hK _ ?_; clear hK K))
    | ((with_reducible apply qcall); (case hw => exact rfl); (case h => (intro u hu; go_simp; exact ⟨rfl, rfl⟩)); (case hc => (intro u hu; with_reducible exact Calls.in_below hu (C1.out _))); (intro K hK; go_simp; refine hK _ ?_; clear hK K)))
  refine wpQuiet_nil ?_
  intro u hu
  go_wp2_with fail
  go_ret
  exact ⟨rfl, hu⟩
theorem l11Run_any (a : Option Addr) (cap : Nat) (ts : List Th) (i : Int) (w : World) (hT : RowT w a ts) :
    Calls Tryd.prog 26 #[.slice a ts.length cap, .int .i64 i] w fun e w' => e = .returned (.bool (kindAtB ts i 3)) ∧ Below w.heap.size w w' := by
  have tt : Below w.heap.size w w := Below.refl _ _
  have hml := hT.len
  cases e1 : inB i 1 ts.length
  · have e2 : kindAtB ts i 3 = false := by simp [kindAtB, e1]
    rw [e2]
    clear e2 hT
    generalize ts.length = m at hml e1
    go_enter Tryd.func26, Tryd.ntmps26
    go_wp2_with (first | (go_at_call 29; refine (l6In_b _ _ _ _).mono ?_; rintro e w' ⟨rfl, hb⟩; skip; have zt := tt.size; (replace tt : Below w.heap.size w w' := by (refine Below.trans ?_ (hb.mono ?_)); (all_goals (repeat (first | with_reducible exact tt | (with_reducible refine Below.setCell ?_ ?_ _) | (with_reducible refine Below.alloc ?_ ?_ _) | with_reducible refine Below.drew ?_)); (all_goals (first | omega | (simp <;> omega))))); clear zt; skip; clear hb))
    go_ret
    exact ⟨rfl, tt⟩
  · obtain ⟨j, rfl, hj⟩ := inB_nat e1
    have hx : ts[j]? = some ts[j] := by simp [hj]
    obtain ⟨b, off, rfl, hb, TI⟩ := hT.get hx
    have e2 : kindAtB ts (j + 1) 3 = (ts[j].kind == 3) := by
      simp only [kindAtB, e1, Bool.true_and]
      rw [show ((j : Int) + 1 - 1).toNat = j from by omega, hx]
      rfl
    rw [e2]
    have tc := fun u hu => (TI u hu).knd
    clear e2 hT hx TI
    generalize ts[j] = t at *
    generalize ts.length = m at *
    have e3 : (1 : Int) ≤ j + 1 ∧ (j : Int) + 1 ≤ m := by simpa [inB] using e1
    go_enter Tryd.func26, Tryd.ntmps26
    go_wp2_with (first | (go_at_call 29; refine (l6In_b _ _ _ _).mono ?_; rintro e w' ⟨rfl, hb'⟩; have c0' := tc _ hb'))
    go_ret
    exact ⟨rfl, by assumption⟩
end Go.Proofs.YtcgmnpppdoadhaaDoor
