/- Contracts of the copies that the exact laws make of their arguments. No condition but where these lie and that they are no longer than the laws ask. -/
import Derived.Test.YtcgmnpppdoadhaaDoorThg2
import Derived.LoopTactic
import Derived.IntWalk
namespace Go.Proofs.YtcgmnpppdoadhaaDoor
set_option maxRecDepth 100000
open Go.RowKit
set_option linter.unusedVariables false
set_option linter.unusedSimpArgs false

/-- The five cells of a right in a row's own cells. -/
def In5 (cs : Array Value) (o : Nat) (x : Rt) : Prop :=
  cs[o]? = some (.int .i64 x.t) ∧ cs[o + 1]? = some (.int .i64 x.v) ∧ cs[o + 2]? = some (.bool x.r) ∧ cs[o + 3]? = some (.bool x.w) ∧ cs[o + 4]? = some (.bool x.k)
def set5 (cs : Array Value) (o : Nat) (x : Rt) : Array Value :=
  ((((cs.setIfInBounds o (.int .i64 x.t)).setIfInBounds (o + 1) (.int .i64 x.v)).setIfInBounds (o + 2) (.bool x.r)).setIfInBounds (o + 3) (.bool x.w)).setIfInBounds (o + 4) (.bool x.k)
theorem set5_size (cs : Array Value) (o : Nat) (x : Rt) : (set5 cs o x).size = cs.size := by simp [set5]
theorem set5_self {cs : Array Value} {o : Nat} (x : Rt) (h : o + 5 ≤ cs.size) : In5 (set5 cs o x) o x := by
  unfold In5 set5
  refine ⟨?_, ?_, ?_, ?_, ?_⟩ <;> simp [Array.getElem?_setIfInBounds] <;> omega
theorem set5_other {cs : Array Value} {o p : Nat} (x y : Rt) (h : p + 5 ≤ o ∨ o + 5 ≤ p) (hy : In5 cs p y) : In5 (set5 cs o x) p y := by
  obtain ⟨h0, h1, h2, h3, h4⟩ := hy
  unfold In5 set5
  have n0 : ∀ i j, i < 5 → j < 5 → ¬ (o + i = p + j) := by omega
  refine ⟨?_, ?_, ?_, ?_, ?_⟩ <;> simp only [Array.getElem?_setIfInBounds, Array.size_setIfInBounds] <;> (repeat rw [if_neg (by omega)]) <;> assumption
theorem own_any {u : World} {B o : Nat} {cs : Array Value} {T : TypeId} (h : u.heap[B]? = some (.cells cs T (0, 0))) (ho : o < cs.size) : ∃ v, u.cell? ⟨B, o, none⟩ = some v :=
  ⟨cs[o], by rw [(own_cells h).1 o]; simp [ho]⟩
theorem infoRt : (Tryd.prog.info? 38).map (fun i => (i.zero, i.size, i.bytes)) = some (some (.agg #[.int .i64 0, .int .i64 0, .bool false, .bool false, .bool false]), 5, 24) := by kernel_rfl
theorem infoInt : (Tryd.prog.info? 3).map (fun i => (i.zero, i.size, i.bytes)) = some (some (.int .i64 0), 1, 8) := by kernel_rfl
set_option maxHeartbeats 4000000 in
theorem toRightS_any (a : Option Addr) (cap : Nat) (rs : List Rt) (w : World) (hr : RowR w a rs) (hlen : rs.length ≤ 1048576) :
    Calls Tryd.prog 73 #[.slice a rs.length cap] w fun e w' => ∃ B, e = .returned (.slice (some ⟨B, 0, none⟩) rs.length rs.length) ∧ w.heap.size ≤ B ∧ RowR w' (some ⟨B, 0, none⟩) rs ∧ Below w.heap.size w w' := by
  have tt : Below w.heap.size w w := Below.refl _ _
  obtain ⟨i0, hi, hz0, hz1, hz2⟩ := info_parts infoRt
  obtain ⟨n, hn⟩ : ∃ n, n = rs.length := ⟨_, rfl⟩
  have hmk : ∀ u : World, (Instr.makeSlice 33 (.int .i64 (n : Int)) (.int .i64 (n : Int))).run Tryd.prog u = .ok (.slice (some ⟨u.heap.size, 0, none⟩) n n) (u.alloc (.cells (madeCells #[.int .i64 0, .int .i64 0, .bool false, .bool false, .bool false] (n * 5)) 38)) := fun u => by
    have h := run_make (P := Tryd.prog) u 33 38 i0 _ Tryd.underlying33 hi hz0 .i64 .i64 (n : Int) (n : Int) (by omega) (by omega) (by rw [hz2]; omega) (by omega)
    rw [hz1] at h
    simpa [Value.cells] using h
  have HR := hid hr
  have HN := hid hn
  rw [← hn]
  rw [← hn] at hlen
  clear hn hr hi hz0 hz1 hz2
  go_enter Tryd.func73, Tryd.ntmps73
  go_wp2_with fail
  go_loopw [4] (fun i wr => ∃ k : Nat, i = .int .i64 k ∧ k ≤ n ∧ Below w.heap.size w wr ∧ ∃ cs : Array Value, wr.heap[w.heap.size]? = some (.cells cs 38 (0, 0)) ∧ cs.size = n * 5 ∧ ∀ j x, j < k → rs[j]? = some x → In5 cs (j * 5) x)
    (fun i _ => n - (intOf i).toNat)
  case atStart => exact ⟨0, rfl, Nat.zero_le _, (by (have zt := tt.size); (repeat (first | with_reducible exact tt | (with_reducible refine Below.setCell ?_ ?_ _) | (with_reducible refine Below.alloc ?_ ?_ _) | with_reducible refine Below.drew ?_)); (all_goals (first | omega | (simp <;> omega)))), _, own_new _ _, size_madeCells _ _, fun j x hj => absurd hj (Nat.not_lt_zero _)⟩
  case round =>
    clear tt
    obtain ⟨k, rfl, hk, tt, cs, hO, hsz, hall⟩ := hrel
    have HS := hid hsz
    have HA := hid hall
    clear hall hsz
    by_cases hkn : k < n
    · obtain ⟨b, off, x, rfl, hx, hlt, hc⟩ := HR.out.at (k := k) (by rw [← HN.out]; exact hkn)
      have HX := hid hx
      obtain ⟨q0, q1, q2, q3, q4⟩ := hc.below tt hlt
      clear hc hx
      go_wp2_with fail
      refine (toRight_any _ _ _ _ _ _).mono ?_
      rintro e w1 ⟨rfl, hb⟩
      replace hO := own_below hb hO
      replace tt := tt.trans (hb.mono tt.size)
      clear hb q0 q1 q2 q3 q4
      obtain ⟨v0, hx0⟩ := own_any hO (o := k * 5) (by rw [HS.out]; omega)
      obtain ⟨v1, hx1⟩ := own_any hO (o := k * 5 + 1) (by rw [HS.out]; omega)
      obtain ⟨v2, hx2⟩ := own_any hO (o := k * 5 + 2) (by rw [HS.out]; omega)
      obtain ⟨v3, hx3⟩ := own_any hO (o := k * 5 + 3) (by rw [HS.out]; omega)
      obtain ⟨v4, hx4⟩ := own_any hO (o := k * 5 + 4) (by rw [HS.out]; omega)
      have hf := (own_cells hO).2
      have HO := hid (own_set (own_set (own_set (own_set (own_set hO (k * 5) (.int .i64 x.t)) (k * 5 + 1) (.int .i64 x.v)) (k * 5 + 2) (.bool x.r)) (k * 5 + 3) (.bool x.w)) (k * 5 + 4) (.bool x.k))
      clear hO
      go_wp2_with fail
      go_roundw
      case rel =>
        refine ⟨k + 1, by go_num, by omega, (by (have zt := tt.size); (repeat (first | with_reducible exact tt | (with_reducible refine Below.setCell ?_ ?_ _) | (with_reducible refine Below.alloc ?_ ?_ _) | with_reducible refine Below.drew ?_)); (all_goals (first | omega | (simp <;> omega)))), set5 cs (k * 5) x, HO.out, (set5_size _ _ _).trans HS.out, fun j y hj hy => ?_⟩
        rcases Nat.lt_succ_iff_lt_or_eq.1 hj with hj | rfl
        · exact set5_other x y (by omega) (HA.out j y hj hy)
        · rw [HX.out] at hy
          cases hy
          exact set5_self x (by rw [HS.out]; omega)
      case measure => simp [intOf]; omega
    · obtain rfl : k = n := by omega
      go_wp2_with fail
      go_ret
      refine ⟨_, rfl, Nat.le_refl _, ?_, tt⟩
      cases hrs : rs with
      | nil => exact .inl rfl
      | cons r0 rs0 =>
        rw [← hrs]
        refine .inr ⟨_, 0, rfl, own_lt hO, by have := HN.out; omega, fun i x hx => ?_⟩
        have hi : i < k := by
          have := (List.getElem?_eq_some_iff.1 hx).1
          have := HN.out
          omega
        obtain ⟨e0, e1, e2, e3, e4⟩ := HA.out i x hi hx
        have oc := (own_cells hO).1
        rw [Nat.zero_add]
        exact ⟨(oc _).trans e0, (oc _).trans e1, (oc _).trans e2, (oc _).trans e3, (oc _).trans e4⟩
end Go.Proofs.YtcgmnpppdoadhaaDoor
