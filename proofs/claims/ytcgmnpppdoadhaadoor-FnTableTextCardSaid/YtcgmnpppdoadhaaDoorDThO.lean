/- The drawn thing of the law: a contract of the reference's DrawThingOk. No condition but that the code is a row of bytes. -/
import Derived.Test.YtcgmnpppdoadhaaDoorDTh
import Derived.Test.YtcgmnpppdoadhaaDoorDrawRgt
namespace Go.Proofs.YtcgmnpppdoadhaaDoor
set_option maxRecDepth 100000
open Go.RowKit
set_option linter.unusedVariables false
set_option linter.unusedSimpArgs false

/-- Where the reader is, as long as operation j draws at most ten. -/
def RdC10 (x : Nat) (p : Int) (b : List Bool) (j : Nat) (u : World) : Prop := ∃ q : Int, p ≤ q ∧ (b[j]? = some false → q ≤ p) ∧ q ≤ p + 10 ∧ Rd u x q
theorem RdC10.start {x : Nat} {p : Int} {b : List Bool} {j : Nat} {u : World} (h : Rd u x p) : RdC10 x p b j u := ⟨p, by omega, fun _ => by omega, by omega, h⟩
theorem RdC10.other {x : Nat} {p : Int} {b : List Bool} {j : Nat} {u u' : World} {i : Nat} (h : RdC10 x p b j u) (hi : i ≠ j) (hR : Below u.heap.size u u') : RdC10 x p (b.set i true) j u' := by
  obtain ⟨q, h1, h2, h3, h4⟩ := h
  exact ⟨q, h1, fun h => h2 (by rwa [List.getElem?_set_ne hi] at h), h3, h4.below hR⟩
theorem RdC10.run {x : Nat} {p : Int} {b : List Bool} {j : Nat} {u' : World} {q : Int} (h1 : p ≤ q) (h2 : q ≤ p + 10) (h : Rd u' x q) : RdC10 x p (b.set j true) j u' := by
  refine ⟨q, h1, fun h => ?_, h2, h⟩
  rw [List.getElem?_set_self'] at h
  cases hb : b[j]? <;> simp [hb] at h
theorem RdC10.setR {x : Nat} {p : Int} {b : List Bool} {j : Nat} {u : World} {i : Nat} (h : RdC10 x p b j u) (hi : i ≠ j) {g : Nat} (hg : x < g) (o : Nat) (r : Rt) : RdC10 x p (b.set i true) j (setR u g o r) := by
  obtain ⟨q, h1, h2, h3, h4⟩ := h
  exact ⟨q, h1, fun h => h2 (by rwa [List.getElem?_set_ne hi] at h), h3, h4.setR hg _ _⟩
/-- What a draw of a thing leaves, in plain data. -/
def ThingOkDrawn (w : World) (e : Ending) (w' : World) : Prop :=
  ∃ (t : Th) (sa qa : Option Addr) (sc qc : Nat), e = .returned (.agg #[.int .i64 t.kind, .int .i64 t.sec, .int .i64 t.vou, .int .i64 t.vers, .int .i64 t.num, .slice sa t.slots.length sc, .slice qa t.queue.length qc, .int .i64 t.tg]) ∧
    t.slots.length ≤ 4 ∧ t.queue.length ≤ 4 ∧ RowR w' sa t.slots ∧ RowI w' qa t.queue ∧ Below w.heap.size w w'
/-- A thing that is being drawn in block T. -/
def ThIn (x : Nat) (w : World) (T n : Nat) (q : Int) (u : World) : Prop :=
  ∃ (k s v ve nu tg : Int) (sa : Option Addr) (sn sc : Nat) (qa : Option Addr) (qn qc : Nat), u.heap[T]? = some (.cells #[.int .i64 k, .int .i64 s, .int .i64 v, .int .i64 ve, .int .i64 nu, .slice sa sn sc, .slice qa qn qc, .int .i64 tg] 36 (0, 0)) ∧
    SlO u w.heap.size (.slice sa sn sc) ∧ QuO u w.heap.size (.slice qa qn qc) n ∧ Rd u x q ∧ Kept x w u
theorem ThIn.put0 {x T n : Nat} {w u : World} {q : Int} (h : ThIn x w T n q u) (hx : x < w.heap.size) (hT : w.heap.size ≤ T) (y : Int) : ThIn x w T n q (u.setCell ⟨T, 0, none⟩ (.int .i64 y)) := by
  obtain ⟨k, s, v, ve, nu, tg, sa, sn, sc, qa, qn, qc, h1, h2, h3, h4, h5⟩ := h
  exact ⟨y, s, v, ve, nu, tg, sa, sn, sc, qa, qn, qc, own_set h1 0 _, h2.setT h1 _ _, h3.setT h1 _ _, h4.setCell (show x < T by omega) _, h5.setCell_new (show w.heap.size ≤ T by omega) _⟩
theorem ThIn.put3 {x T n : Nat} {w u : World} {q : Int} (h : ThIn x w T n q u) (hx : x < w.heap.size) (hT : w.heap.size ≤ T) (y : Int) : ThIn x w T n q (u.setCell ⟨T, 3, none⟩ (.int .i64 y)) := by
  obtain ⟨k, s, v, ve, nu, tg, sa, sn, sc, qa, qn, qc, h1, h2, h3, h4, h5⟩ := h
  exact ⟨k, s, v, y, nu, tg, sa, sn, sc, qa, qn, qc, own_set h1 3 _, h2.setT h1 _ _, h3.setT h1 _ _, h4.setCell (show x < T by omega) _, h5.setCell_new (show w.heap.size ≤ T by omega) _⟩
theorem ThIn.put4 {x T n : Nat} {w u : World} {q : Int} (h : ThIn x w T n q u) (hx : x < w.heap.size) (hT : w.heap.size ≤ T) (y : Int) : ThIn x w T n q (u.setCell ⟨T, 4, none⟩ (.int .i64 y)) := by
  obtain ⟨k, s, v, ve, nu, tg, sa, sn, sc, qa, qn, qc, h1, h2, h3, h4, h5⟩ := h
  exact ⟨k, s, v, ve, y, tg, sa, sn, sc, qa, qn, qc, own_set h1 4 _, h2.setT h1 _ _, h3.setT h1 _ _, h4.setCell (show x < T by omega) _, h5.setCell_new (show w.heap.size ≤ T by omega) _⟩
theorem ThIn.pick {x T n : Nat} {w u u' : World} {q q' : Int} (h : ThIn x w T n q u) (hx : x < w.heap.size) (hT : w.heap.size ≤ T) (hk : Kept x u u') (hr : Rd u' x q') : ThIn x w T n q' u' := by
  obtain ⟨k, s, v, ve, nu, tg, sa, sn, sc, qa, qn, qc, h1, h2, h3, h4, h5⟩ := h
  exact ⟨k, s, v, ve, nu, tg, sa, sn, sc, qa, qn, qc, own_kept hk (by omega) h1, h2.kept hk hx, h3.kept hk hx, hr, h5.trans hk⟩
theorem ThIn.below {x T n : Nat} {w u u' : World} {q : Int} (h : ThIn x w T n q u) (hb : Below u.heap.size u u') : ThIn x w T n q u' := by
  obtain ⟨k, s, v, ve, nu, tg, sa, sn, sc, qa, qn, qc, h1, h2, h3, h4, h5⟩ := h
  exact ⟨k, s, v, ve, nu, tg, sa, sn, sc, qa, qn, qc, own_below hb h1, h2.below hb, h3.below hb, h4.below hb, h5.of_below hb⟩
theorem ThIn.more {x T n n' : Nat} {w u : World} {q : Int} (h : ThIn x w T n q u) (hn : n ≤ n') : ThIn x w T n' q u := by
  obtain ⟨k, s, v, ve, nu, tg, sa, sn, sc, qa, qn, qc, h1, h2, h3, h4, h5⟩ := h
  exact ⟨k, s, v, ve, nu, tg, sa, sn, sc, qa, qn, qc, h1, h2, h3.mono (Nat.le_refl _) hn, h4, h5⟩
end Go.Proofs.YtcgmnpppdoadhaaDoor
