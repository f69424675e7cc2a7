/- What a thing and a table are in plain data, how they lie in memory, and the contracts of the checks of a thing. No condition but where they lie. -/
import Derived.Test.YtcgmnpppdoadhaaDoorOk
import Derived.Test.YtcgmnpppdoadhaaDoorInv
import Derived.LoopN
import Derived.Laws.Cover3
import Derived.Deep.MidRow
namespace Go.Proofs.YtcgmnpppdoadhaaDoor
set_option maxRecDepth 100000
open Go.RowKit
set_option linter.unusedVariables false

structure Rt where
  t : Int
  v : Int
  r : Bool
  w : Bool
  k : Bool
structure Th where
  kind : Int
  sec : Int
  vou : Int
  vers : Int
  num : Int
  slots : List Rt
  queue : List Int
  tg : Int

def Rt.ok (x : Rt) : Bool := rgtOk x.t x.v x.r x.w x.k
def versB (k v : Int) : Bool := if k = 1 ∨ k = 2 ∨ k = 4 then inB v 0 5 else decide (v = 0)
def numB (k n : Int) : Bool := if k = 1 ∨ k = 5 then inB n 0 99 else if k = 3 then inB n (-4) 99 else decide (n = 0)
def slotsB (k : Int) (rs : List Rt) : Bool := if k = 2 ∨ k = 3 then decide (rs.length = 4) && rs.all Rt.ok else decide (rs.length = 0)
def queueB (k : Int) (qs : List Int) : Bool := if k = 4 then decide (qs.length ≤ 3) && qs.all (fun n => inB n 0 99) else decide (qs.length = 0)
def toB (k x : Int) : Bool := if k = 5 then inB x 1 8 else decide (x = 0)
def thOk (kind sec vou vers num : Int) (rs : List Rt) (qs : List Int) (tg : Int) : Bool :=
  inB kind 1 5 && lblOk sec vou && versB kind vers && numB kind num && slotsB kind rs && queueB kind qs && toB kind tg

/-- The five cells of a right. -/
def At5 (w : World) (b o : Nat) (x : Rt) : Prop :=
  w.cell? ⟨b, o, none⟩ = some (.int .i64 x.t) ∧ w.cell? ⟨b, o + 1, none⟩ = some (.int .i64 x.v) ∧ w.cell? ⟨b, o + 2, none⟩ = some (.bool x.r) ∧ w.cell? ⟨b, o + 3, none⟩ = some (.bool x.w) ∧ w.cell? ⟨b, o + 4, none⟩ = some (.bool x.k)
/-- A row of rights. -/
def RowR (w : World) (a : Option Addr) (rs : List Rt) : Prop :=
  rs = [] ∨ ∃ b off, a = some ⟨b, off, none⟩ ∧ b < w.heap.size ∧ rs.length ≤ 9223372036854775807 ∧ ∀ i x, rs[i]? = some x → At5 w b (off + i * 5) x
/-- A row of numbers. -/
def RowI (w : World) (a : Option Addr) (zs : List Int) : Prop :=
  zs = [] ∨ ∃ b off, a = some ⟨b, off, none⟩ ∧ b < w.heap.size ∧ zs.length ≤ 9223372036854775807 ∧ ∀ i x, zs[i]? = some x → w.cell? ⟨b, off + i, none⟩ = some (.int .i64 x)

theorem At5.below {w w' : World} {b o : Nat} {x : Rt} {B : Nat} (h : At5 w b o x) (hb : Below B w w') (hlt : b < B) : At5 w' b o x := by
  obtain ⟨h0, h1, h2, h3, h4⟩ := h
  exact ⟨(hb.cell (p := ⟨b, _, none⟩) hlt).trans h0, (hb.cell (p := ⟨b, _, none⟩) hlt).trans h1, (hb.cell (p := ⟨b, _, none⟩) hlt).trans h2, (hb.cell (p := ⟨b, _, none⟩) hlt).trans h3, (hb.cell (p := ⟨b, _, none⟩) hlt).trans h4⟩
theorem RowR.below {w w' : World} {a : Option Addr} {rs : List Rt} (h : RowR w a rs) (hb : Below w.heap.size w w') : RowR w' a rs := by
  rcases h with h | ⟨b, off, h1, h2, hl, h3⟩
  · exact .inl h
  · exact .inr ⟨b, off, h1, Nat.lt_of_lt_of_le h2 hb.size, hl, fun i x hx => (h3 i x hx).below hb h2⟩
theorem RowI.below {w w' : World} {a : Option Addr} {zs : List Int} (h : RowI w a zs) (hb : Below w.heap.size w w') : RowI w' a zs := by
  rcases h with h | ⟨b, off, h1, h2, hl, h3⟩
  · exact .inl h
  · exact .inr ⟨b, off, h1, Nat.lt_of_lt_of_le h2 hb.size, hl, fun i x hx => (hb.cell (p := ⟨b, _, none⟩) h2).trans (h3 i x hx)⟩
/-- The cells of a row of rights, one behind the other. -/
def Rt.cells (x : Rt) : List Value := [.int .i64 x.t, .int .i64 x.v, .bool x.r, .bool x.w, .bool x.k]
theorem RowR.len {w : World} {a : Option Addr} {rs : List Rt} (h : RowR w a rs) : rs.length ≤ 9223372036854775807 := by
  rcases h with rfl | ⟨b, off, h1, h2, hl, h3⟩
  · simp
  · exact hl
theorem RowI.len {w : World} {a : Option Addr} {zs : List Int} (h : RowI w a zs) : zs.length ≤ 9223372036854775807 := by
  rcases h with rfl | ⟨b, off, h1, h2, hl, h3⟩
  · simp
  · exact hl
theorem RowR.four {w : World} {a : Option Addr} {x0 x1 x2 x3 : Rt} (h : RowR w a [x0, x1, x2, x3]) : ∃ b off, a = some ⟨b, off, none⟩ ∧ b < w.heap.size ∧
    ∀ u, Below w.heap.size w u → u.rangeAt b off [.int .i64 x0.t, .int .i64 x0.v, .bool x0.r, .bool x0.w, .bool x0.k, .int .i64 x1.t, .int .i64 x1.v, .bool x1.r, .bool x1.w, .bool x1.k, .int .i64 x2.t, .int .i64 x2.v, .bool x2.r, .bool x2.w, .bool x2.k, .int .i64 x3.t, .int .i64 x3.v, .bool x3.r, .bool x3.w, .bool x3.k] := by
  rcases h with h | ⟨b, off, h1, h2, hl, h3⟩
  · cases h
  refine ⟨b, off, h1, h2, fun u hu j v hv => ?_⟩
  rw [hu.cell (p := ⟨b, off + j, none⟩) h2]
  have e0 := h3 0 x0 rfl
  have e1 := h3 1 x1 rfl
  have e2 := h3 2 x2 rfl
  have e3 := h3 3 x3 rfl
  match j, hv with
  | 0, hv => exact (show _ = some _ from e0.1).trans hv
  | 1, hv => exact (show _ = some _ from e0.2.1).trans hv
  | 2, hv => exact (show _ = some _ from e0.2.2.1).trans hv
  | 3, hv => exact (show _ = some _ from e0.2.2.2.1).trans hv
  | 4, hv => exact (show _ = some _ from e0.2.2.2.2).trans hv
  | 5, hv => exact (show _ = some _ from e1.1).trans hv
  | 6, hv => exact (show _ = some _ from e1.2.1).trans hv
  | 7, hv => exact (show _ = some _ from e1.2.2.1).trans hv
  | 8, hv => exact (show _ = some _ from e1.2.2.2.1).trans hv
  | 9, hv => exact (show _ = some _ from e1.2.2.2.2).trans hv
  | 10, hv => exact (show _ = some _ from e2.1).trans hv
  | 11, hv => exact (show _ = some _ from e2.2.1).trans hv
  | 12, hv => exact (show _ = some _ from e2.2.2.1).trans hv
  | 13, hv => exact (show _ = some _ from e2.2.2.2.1).trans hv
  | 14, hv => exact (show _ = some _ from e2.2.2.2.2).trans hv
  | 15, hv => exact (show _ = some _ from e3.1).trans hv
  | 16, hv => exact (show _ = some _ from e3.2.1).trans hv
  | 17, hv => exact (show _ = some _ from e3.2.2.1).trans hv
  | 18, hv => exact (show _ = some _ from e3.2.2.2.1).trans hv
  | 19, hv => exact (show _ = some _ from e3.2.2.2.2).trans hv
  | n + 20, hv => cases hv
theorem versOk_any (kind sec vou vers num tg : Int) (sa qa : Option Addr) (sl sc ql qc : Nat) (w : World) :
    Calls Tryd.prog 87 #[.agg #[.int .i64 kind, .int .i64 sec, .int .i64 vou, .int .i64 vers, .int .i64 num, .slice sa sl sc, .slice qa ql qc, .int .i64 tg]] w fun e w' => e = .returned (.bool (versB kind vers)) ∧ Below w.heap.size w w' := by
  go_enter Tryd.func87, Tryd.ntmps87
  go_wp2_with (go_at_call 60; refine (inRange_any _ _ _ _).mono ?_; rintro e w' ⟨rfl, rfl⟩)
  all_goals
    go_ret
    exact ⟨ret_bool (by simp_all [versB] <;> rfl), (Below.refl _ _).alloc (Nat.le_refl _) _⟩
theorem numOk_any (kind sec vou vers num tg : Int) (sa qa : Option Addr) (sl sc ql qc : Nat) (w : World) :
    Calls Tryd.prog 88 #[.agg #[.int .i64 kind, .int .i64 sec, .int .i64 vou, .int .i64 vers, .int .i64 num, .slice sa sl sc, .slice qa ql qc, .int .i64 tg]] w fun e w' => e = .returned (.bool (numB kind num)) ∧ Below w.heap.size w w' := by
  go_enter Tryd.func88, Tryd.ntmps88
  go_wp2_with (go_at_call 60; refine (inRange_any _ _ _ _).mono ?_; rintro e w' ⟨rfl, rfl⟩)
  all_goals
    go_ret
    exact ⟨ret_bool (by simp_all [numB] <;> rfl), (Below.refl _ _).alloc (Nat.le_refl _) _⟩
theorem targetOk_any (kind sec vou vers num tg : Int) (sa qa : Option Addr) (sl sc ql qc : Nat) (w : World) :
    Calls Tryd.prog 91 #[.agg #[.int .i64 kind, .int .i64 sec, .int .i64 vou, .int .i64 vers, .int .i64 num, .slice sa sl sc, .slice qa ql qc, .int .i64 tg]] w fun e w' => e = .returned (.bool (toB kind tg)) ∧ Below w.heap.size w w' := by
  go_enter Tryd.func91, Tryd.ntmps91
  go_wp2_with (go_at_call 60; refine (inRange_any _ _ _ _).mono ?_; rintro e w' ⟨rfl, rfl⟩)
  all_goals
    go_ret
    exact ⟨ret_bool (by simp_all [toB] <;> rfl), (Below.refl _ _).alloc (Nat.le_refl _) _⟩
theorem rtOk_any (x : Rt) (w : World) : Calls Tryd.prog 106 #[.agg #[.int .i64 x.t, .int .i64 x.v, .bool x.r, .bool x.w, .bool x.k]] w fun e w' => e = .returned (.bool x.ok) ∧ Below w.heap.size w w' := rightOk_any _ _ _ _ _ w
theorem srtOk_any (x : Rt) (w : World) : Calls Tryd.prog 56 #[.agg #[.int .i64 x.t, .int .i64 x.v, .bool x.r, .bool x.w, .bool x.k]] w fun e w' => e = .returned (.bool x.ok) ∧ Below w.heap.size w w' := srightOk_any _ _ _ _ _ w
set_option maxHeartbeats 4000000 in
theorem slotsOk_four (kind sec vou vers num tg : Int) (sa qa : Option Addr) (x0 x1 x2 x3 : Rt) (sc ql qc : Nat) (w : World) (hr : RowR w sa [x0, x1, x2, x3]) (hk : kind = 2 ∨ kind = 3) :
    Calls Tryd.prog 89 #[.agg #[.int .i64 kind, .int .i64 sec, .int .i64 vou, .int .i64 vers, .int .i64 num, .slice sa 4 sc, .slice qa ql qc, .int .i64 tg]] w fun e w' => e = .returned (.bool (x0.ok && (x1.ok && (x2.ok && x3.ok)))) ∧ Below w.heap.size w w' := by
  have tt : Below w.heap.size w w := Below.refl _ _
  obtain ⟨b, off, rfl, hb, hrg⟩ := hr.four
  have i0 : ∀ u : World, (Instr.index 153 (.agg #[.int .i64 x0.t, .int .i64 x0.v, .bool x0.r, .bool x0.w, .bool x0.k, .int .i64 x1.t, .int .i64 x1.v, .bool x1.r, .bool x1.w, .bool x1.k, .int .i64 x2.t, .int .i64 x2.v, .bool x2.r, .bool x2.w, .bool x2.k, .int .i64 x3.t, .int .i64 x3.v, .bool x3.r, .bool x3.w, .bool x3.k]) (.int .i64 0)).run Tryd.prog u = .ok (.agg #[.int .i64 x0.t, .int .i64 x0.v, .bool x0.r, .bool x0.w, .bool x0.k]) u := fun _ => by kernel_rfl
  have i1 : ∀ u : World, (Instr.index 153 (.agg #[.int .i64 x0.t, .int .i64 x0.v, .bool x0.r, .bool x0.w, .bool x0.k, .int .i64 x1.t, .int .i64 x1.v, .bool x1.r, .bool x1.w, .bool x1.k, .int .i64 x2.t, .int .i64 x2.v, .bool x2.r, .bool x2.w, .bool x2.k, .int .i64 x3.t, .int .i64 x3.v, .bool x3.r, .bool x3.w, .bool x3.k]) (.int .i64 1)).run Tryd.prog u = .ok (.agg #[.int .i64 x1.t, .int .i64 x1.v, .bool x1.r, .bool x1.w, .bool x1.k]) u := fun _ => by kernel_rfl
  have i2 : ∀ u : World, (Instr.index 153 (.agg #[.int .i64 x0.t, .int .i64 x0.v, .bool x0.r, .bool x0.w, .bool x0.k, .int .i64 x1.t, .int .i64 x1.v, .bool x1.r, .bool x1.w, .bool x1.k, .int .i64 x2.t, .int .i64 x2.v, .bool x2.r, .bool x2.w, .bool x2.k, .int .i64 x3.t, .int .i64 x3.v, .bool x3.r, .bool x3.w, .bool x3.k]) (.int .i64 2)).run Tryd.prog u = .ok (.agg #[.int .i64 x2.t, .int .i64 x2.v, .bool x2.r, .bool x2.w, .bool x2.k]) u := fun _ => by kernel_rfl
  have i3 : ∀ u : World, (Instr.index 153 (.agg #[.int .i64 x0.t, .int .i64 x0.v, .bool x0.r, .bool x0.w, .bool x0.k, .int .i64 x1.t, .int .i64 x1.v, .bool x1.r, .bool x1.w, .bool x1.k, .int .i64 x2.t, .int .i64 x2.v, .bool x2.r, .bool x2.w, .bool x2.k, .int .i64 x3.t, .int .i64 x3.v, .bool x3.r, .bool x3.w, .bool x3.k]) (.int .i64 3)).run Tryd.prog u = .ok (.agg #[.int .i64 x3.t, .int .i64 x3.v, .bool x3.r, .bool x3.w, .bool x3.k]) u := fun _ => by kernel_rfl
  have hq : ∀ u : World, Sem.run Tryd.prog (Instr.arrayAt 153 (.slice (some ⟨b, off, none⟩) 4 sc)) u = .ok (.pointer (some ⟨b, off, none⟩)) u := fun u => run_arrayAt (h := Tryd.underlying153) (hn := Nat.le_refl 4) ..
  rcases hk with rfl | rfl
  all_goals
    go_enter Tryd.func89, Tryd.ntmps89
    go_wp2_with (with_reducible refine wpList_load_mid rfl 153 (.tmp 23) rfl b off rfl [.int .i64 x0.t, .int .i64 x0.v, .bool x0.r, .bool x0.w, .bool x0.k, .int .i64 x1.t, .int .i64 x1.v, .bool x1.r, .bool x1.w, .bool x1.k, .int .i64 x2.t, .int .i64 x2.v, .bool x2.r, .bool x2.w, .bool x2.k, .int .i64 x3.t, .int .i64 x3.v, .bool x3.r, .bool x3.w, .bool x3.k] _ (hrg _ ((Below.refl _ _).alloc (Nat.le_refl _) _)) Tryd.underlying153 rfl (by kernel_rfl) ?_)
    refine wp_loop_rounds 5 ?_
    cases q0 : x0.ok
    · rw [rounds_succ]
      go_wp2_with (first | (go_at_call 106; refine (rtOk_any _ _).mono ?_; rintro e w' ⟨rfl, hb⟩; skip; have zt := tt.size; (replace tt : Below w.heap.size w w' := by (refine Below.trans ?_ (hb.mono ?_)); (all_goals (repeat (first | with_reducible exact tt | (with_reducible refine Below.setCell ?_ ?_ _) | (with_reducible refine Below.alloc ?_ ?_ _) | with_reducible refine Below.drew ?_)); (all_goals (first | omega | (simp <;> omega))))); clear zt; skip; clear hb))
      go_ret
      refine ⟨ret_bool (by simp [q0]), ?_⟩
      have zt := tt.size
      (repeat (first | with_reducible exact tt | (with_reducible refine Below.setCell ?_ ?_ _) | (with_reducible refine Below.alloc ?_ ?_ _) | (with_reducible refine Below.drew ?_) | with_reducible refine Below.drewN' ?_ _)); (all_goals (first | omega | (simp <;> omega)))
    · rw [rounds_succ]
      go_wp2_with (first | (go_at_call 106; refine (rtOk_any _ _).mono ?_; rintro e w' ⟨rfl, hb⟩; skip; have zt := tt.size; (replace tt : Below w.heap.size w w' := by (refine Below.trans ?_ (hb.mono ?_)); (all_goals (repeat (first | with_reducible exact tt | (with_reducible refine Below.setCell ?_ ?_ _) | (with_reducible refine Below.alloc ?_ ?_ _) | with_reducible refine Below.drew ?_)); (all_goals (first | omega | (simp <;> omega))))); clear zt; skip; clear hb))
      cases q1 : x1.ok
      · rw [rounds_succ]
        go_wp2_with (first | (go_at_call 106; refine (rtOk_any _ _).mono ?_; rintro e w' ⟨rfl, hb⟩; skip; have zt := tt.size; (replace tt : Below w.heap.size w w' := by (refine Below.trans ?_ (hb.mono ?_)); (all_goals (repeat (first | with_reducible exact tt | (with_reducible refine Below.setCell ?_ ?_ _) | (with_reducible refine Below.alloc ?_ ?_ _) | with_reducible refine Below.drew ?_)); (all_goals (first | omega | (simp <;> omega))))); clear zt; skip; clear hb))
        go_ret
        refine ⟨ret_bool (by simp [q0, q1]), ?_⟩
        have zt := tt.size
        (repeat (first | with_reducible exact tt | (with_reducible refine Below.setCell ?_ ?_ _) | (with_reducible refine Below.alloc ?_ ?_ _) | (with_reducible refine Below.drew ?_) | with_reducible refine Below.drewN' ?_ _)); (all_goals (first | omega | (simp <;> omega)))
      · rw [rounds_succ]
        go_wp2_with (first | (go_at_call 106; refine (rtOk_any _ _).mono ?_; rintro e w' ⟨rfl, hb⟩; skip; have zt := tt.size; (replace tt : Below w.heap.size w w' := by (refine Below.trans ?_ (hb.mono ?_)); (all_goals (repeat (first | with_reducible exact tt | (with_reducible refine Below.setCell ?_ ?_ _) | (with_reducible refine Below.alloc ?_ ?_ _) | with_reducible refine Below.drew ?_)); (all_goals (first | omega | (simp <;> omega))))); clear zt; skip; clear hb))
        cases q2 : x2.ok
        · rw [rounds_succ]
          go_wp2_with (first | (go_at_call 106; refine (rtOk_any _ _).mono ?_; rintro e w' ⟨rfl, hb⟩; skip; have zt := tt.size; (replace tt : Below w.heap.size w w' := by (refine Below.trans ?_ (hb.mono ?_)); (all_goals (repeat (first | with_reducible exact tt | (with_reducible refine Below.setCell ?_ ?_ _) | (with_reducible refine Below.alloc ?_ ?_ _) | with_reducible refine Below.drew ?_)); (all_goals (first | omega | (simp <;> omega))))); clear zt; skip; clear hb))
          go_ret
          refine ⟨ret_bool (by simp [q0, q1, q2]), ?_⟩
          have zt := tt.size
          (repeat (first | with_reducible exact tt | (with_reducible refine Below.setCell ?_ ?_ _) | (with_reducible refine Below.alloc ?_ ?_ _) | (with_reducible refine Below.drew ?_) | with_reducible refine Below.drewN' ?_ _)); (all_goals (first | omega | (simp <;> omega)))
        · rw [rounds_succ]
          go_wp2_with (first | (go_at_call 106; refine (rtOk_any _ _).mono ?_; rintro e w' ⟨rfl, hb⟩; skip; have zt := tt.size; (replace tt : Below w.heap.size w w' := by (refine Below.trans ?_ (hb.mono ?_)); (all_goals (repeat (first | with_reducible exact tt | (with_reducible refine Below.setCell ?_ ?_ _) | (with_reducible refine Below.alloc ?_ ?_ _) | with_reducible refine Below.drew ?_)); (all_goals (first | omega | (simp <;> omega))))); clear zt; skip; clear hb))
          cases q3 : x3.ok
          · rw [rounds_succ]
            go_wp2_with (first | (go_at_call 106; refine (rtOk_any _ _).mono ?_; rintro e w' ⟨rfl, hb⟩; skip; have zt := tt.size; (replace tt : Below w.heap.size w w' := by (refine Below.trans ?_ (hb.mono ?_)); (all_goals (repeat (first | with_reducible exact tt | (with_reducible refine Below.setCell ?_ ?_ _) | (with_reducible refine Below.alloc ?_ ?_ _) | with_reducible refine Below.drew ?_)); (all_goals (first | omega | (simp <;> omega))))); clear zt; skip; clear hb))
            go_ret
            refine ⟨ret_bool (by simp [q0, q1, q2, q3]), ?_⟩
            have zt := tt.size
            (repeat (first | with_reducible exact tt | (with_reducible refine Below.setCell ?_ ?_ _) | (with_reducible refine Below.alloc ?_ ?_ _) | (with_reducible refine Below.drew ?_) | with_reducible refine Below.drewN' ?_ _)); (all_goals (first | omega | (simp <;> omega)))
          · rw [rounds_succ]
            go_wp2_with (first | (go_at_call 106; refine (rtOk_any _ _).mono ?_; rintro e w' ⟨rfl, hb⟩; skip; have zt := tt.size; (replace tt : Below w.heap.size w w' := by (refine Below.trans ?_ (hb.mono ?_)); (all_goals (repeat (first | with_reducible exact tt | (with_reducible refine Below.setCell ?_ ?_ _) | (with_reducible refine Below.alloc ?_ ?_ _) | with_reducible refine Below.drew ?_)); (all_goals (first | omega | (simp <;> omega))))); clear zt; skip; clear hb))
            rw [rounds_succ]
            go_wp2_with fail
            go_ret
            refine ⟨ret_bool (by simp [q0, q1, q2, q3]), ?_⟩
            have zt := tt.size
            (repeat (first | with_reducible exact tt | (with_reducible refine Below.setCell ?_ ?_ _) | (with_reducible refine Below.alloc ?_ ?_ _) | (with_reducible refine Below.drew ?_) | with_reducible refine Below.drewN' ?_ _)); (all_goals (first | omega | (simp <;> omega)))
theorem slotsOk_any (kind sec vou vers num tg : Int) (sa qa : Option Addr) (rs : List Rt) (sc ql qc : Nat) (w : World) (hr : RowR w sa rs) :
    Calls Tryd.prog 89 #[.agg #[.int .i64 kind, .int .i64 sec, .int .i64 vou, .int .i64 vers, .int .i64 num, .slice sa rs.length sc, .slice qa ql qc, .int .i64 tg]] w fun e w' => e = .returned (.bool (slotsB kind rs)) ∧ Below w.heap.size w w' := by
  by_cases hk : kind = 2 ∨ kind = 3
  · by_cases hl : rs.length = 4
    · match rs, hl with
      | [x0, x1, x2, x3], _ =>
      have e : slotsB kind [x0, x1, x2, x3] = (x0.ok && (x1.ok && (x2.ok && x3.ok))) := by simp [slotsB, hk]
      rw [e]
      exact slotsOk_four kind sec vou vers num tg sa qa x0 x1 x2 x3 sc ql qc w hr hk
    · have e : slotsB kind rs = false := by simp [slotsB, hk, hl]
      rw [e]
      clear e
      have hl' : ((rs.length : Int) == 4) = false := by simp; omega
      generalize rs.length = n at hl'
      clear hl hr
      rcases hk with rfl | rfl
      all_goals
        go_enter Tryd.func89, Tryd.ntmps89
        go_wp2_with fail
        go_ret
        exact ⟨rfl, (Below.refl _ _).alloc (Nat.le_refl _) _⟩
  · have e : slotsB kind rs = ((rs.length : Int) == 0) := by simp only [slotsB, hk, if_false]; rw [Bool.eq_iff_iff]; simp
    rw [e]
    clear e
    generalize rs.length = n
    have h1 : (kind != 2) = true := by simp; omega
    have h2 : (kind != 3) = true := by simp; omega
    clear hk hr
    go_enter Tryd.func89, Tryd.ntmps89
    go_wp2_with fail
    go_ret
    exact ⟨rfl, (Below.refl _ _).alloc (Nat.le_refl _) _⟩
end Go.Proofs.YtcgmnpppdoadhaaDoor
