/- Facts for walks over a reader: own blocks stay, and how far the reader has gone on. No condition. -/
import Derived.Test.YtcgmnpppdoadhaaDoorDrawCall
import Derived.Test.YtcgmnpppdoadhaaDoorInv
namespace Go.Proofs.YtcgmnpppdoadhaaDoor
set_option maxRecDepth 100000
open Go.RowKit

theorem own_kept {x : Nat} {u u' : World} {B : Nat} {o : Obj} (hR : Kept x u u') (hx : ¬ B = x) (h : u.heap[B]? = some o) : u'.heap[B]? = some o := (hR.block B (own_lt h) hx).trans h

/-- A reader that has gone on by at most so many places as operations have run. -/
def RdC (x : Nat) (p : Int) (b : List Bool) (js : List Nat) (u : World) : Prop := ∃ q : Int, p ≤ q ∧ q ≤ p + Cnt b js ∧ Rd u x q
theorem RdC.start {x : Nat} {p : Int} {b : List Bool} {js : List Nat} {u : World} (h : Rd u x p) : RdC x p b js u := ⟨p, by omega, by omega, h⟩
theorem RdC.other {x : Nat} {p : Int} {b : List Bool} {js : List Nat} {u u' : World} {i : Nat} (h : RdC x p b js u) (hi : i ∉ js) (hR : Below u.heap.size u u') : RdC x p (b.set i true) js u' := by
  obtain ⟨q, h1, h2, h3⟩ := h
  exact ⟨q, h1, by rw [Cnt_other hi]; exact h2, h3.below hR⟩
theorem RdC.run {x : Nat} {p : Int} {b : List Bool} {js : List Nat} {u' : World} {i : Nat} {q : Int} (hb : b[i]? = some false) (hn : js.Nodup) (hi : i ∈ js) (h1 : p ≤ q) (h2 : q ≤ p + Cnt b js) (h : Rd u' x (q + 1)) : RdC x p (b.set i true) js u' :=
  ⟨q + 1, by omega, by rw [Cnt_self hb hn hi]; omega, h⟩
theorem RdC.set {x : Nat} {p : Int} {b : List Bool} {js : List Nat} {u : World} {i : Nat} (h : RdC x p b js u) (hi : i ∉ js) {a : Addr} (ha : x < a.block) (v : Value) : RdC x p (b.set i true) js (u.setCell a v) := by
  obtain ⟨q, h1, h2, h3⟩ := h
  exact ⟨q, h1, by rw [Cnt_other hi]; exact h2, h3.setCell ha v⟩

end Go.Proofs.YtcgmnpppdoadhaaDoor
