/- The words that all of this seat's texts share: the plain functions that the code computes (no program in sight), small facts on worlds, and how an argument that came in is opened to its values. No condition. -/
import Derived.Test.YtcgmnpppdoadhaaDoorRows
import Derived.WalkKit
import Derived.WalkSpells
import Derived.WalkLawsBesides
import Derived.ProofKit
import Derived.OpenShut
import Derived.ShutString
import Derived.ChangeOld
import Derived.Below
namespace Go.Proofs.YtcgmnpppdoadhaaDoor
set_option maxRecDepth 100000
open Go.ChangeShapes Go.WideShapes Go.ChangeAt Go.RowKit
open Go.ChangeMaps (open_string shut_string)

theorem own : ownKnob Tryd.prog.godebug = none := by kernel_rfl
theorem laidOut : laidOutB Tryd.prog = true := by kernel_rfl

theorem hid {p : Prop} (h : p) : Hid p := h
theorem ret_bool {a b : Bool} (h : a = b) : Ending.returned (.bool a) = .returned (.bool b) := by rw [h]
theorem ret_int {a b : Int} (h : a = b) : Ending.returned (.int .i64 a) = .returned (.int .i64 b) := by rw [h]

/-- Below the old size all cells and marks read as before. -/
theorem bcell {W w1 : World} (hb : Below W.heap.size W w1) : (∀ b o, b < W.heap.size → w1.cell? ⟨b, o, none⟩ = W.cell? ⟨b, o, none⟩) ∧ (∀ b o, b < W.heap.size → w1.frozen? ⟨b, o, none⟩ = W.frozen? ⟨b, o, none⟩) :=
  ⟨fun b o h => hb.cell (p := ⟨b, o, none⟩) h, fun b o h => hb.frozen (p := ⟨b, o, none⟩) h⟩

/-! ### The plain functions -/
def inB (n lo hi : Int) : Bool := decide (lo ≤ n ∧ n ≤ hi)
def lblOk (s v : Int) : Bool := inB s 0 3 && inB v 0 3
def clOk (k r a b n : Int) : Bool := inB k 1 9 && inB r 1 8 && inB a 0 3 && inB b 0 3 && inB n 0 99
def rgtNull (t v : Int) (r w k : Bool) : Bool := decide (t = 0 ∧ v = 0) && !r && !w && !k
def rgtOk (t v : Int) (r w k : Bool) : Bool := rgtNull t v r w k || (inB t 1 8 && inB v 0 5 && !(k && w))

def subB (a b : Int) : Bool := decide (a % 2 ≤ b % 2 ∧ a / 2 ≤ b / 2)
def orI (a b : Int) : Int := max (a % 2) (b % 2) + 2 * max (a / 2) (b / 2)
def andI (a b : Int) : Int := min (a % 2) (b % 2) + 2 * min (a / 2) (b / 2)
def flowB (s1 v1 s2 v2 : Int) : Bool := lblOk s1 v1 && lblOk s2 v2 && subB s1 s2 && subB v2 v1
/-- The two numbers of the join, of the meet. -/
def joinS (s1 v1 s2 v2 : Int) : Int := if lblOk s1 v1 && lblOk s2 v2 then orI s1 s2 else 0
def joinV (s1 v1 s2 v2 : Int) : Int := if lblOk s1 v1 && lblOk s2 v2 then andI v1 v2 else 0
def meetS (s1 v1 s2 v2 : Int) : Int := if lblOk s1 v1 && lblOk s2 v2 then andI s1 s2 else 0
def meetV (s1 v1 s2 v2 : Int) : Int := if lblOk s1 v1 && lblOk s2 v2 then orI v1 v2 else 0
def lblEq (s1 v1 s2 v2 : Int) : Bool := decide (s1 = s2) && decide (v1 = v2)
def rgtEq (t1 v1 : Int) (r1 w1 k1 : Bool) (t2 v2 : Int) (r2 w2 k2 : Bool) : Bool := decide (t1 = t2) && decide (v1 = v2) && (r1 == r2) && (w1 == w2) && (k1 == k2)

/-- One right gives no more than another one (both being such). -/
def rgtIn (t1 v1 : Int) (r1 w1 k1 : Bool) (t2 v2 : Int) (r2 w2 k2 : Bool) : Bool := decide (t1 = 0) || (decide (t1 = t2) && decide (v1 = v2) && (!r1 || r2) && (!w1 || w2) && (k1 || !k2))
def rgtInB (t1 v1 : Int) (r1 w1 k1 : Bool) (t2 v2 : Int) (r2 w2 k2 : Bool) : Bool := rgtOk t1 v1 r1 w1 k1 && rgtOk t2 v2 r2 w2 k2 && rgtIn t1 v1 r1 w1 k1 t2 v2 r2 w2 k2
/-- The lessened right, field by field. -/
def lessT (t v : Int) (r w k : Bool) : Int := if rgtOk t v r w k then t else 0
def lessV (t v : Int) (r w k : Bool) : Int := if rgtOk t v r w k then v else 0
def lessR (t v : Int) (r w k rd : Bool) : Bool := rgtOk t v r w k && r && rd
def lessW (t v : Int) (r w k wr st : Bool) : Bool := rgtOk t v r w k && w && wr && st
def lessK (t v : Int) (r w k st : Bool) : Bool := rgtOk t v r w k && !decide (t = 0) && (k || !st)

theorem lblOk_bd {s v : Int} (h : lblOk s v = true) : 0 ≤ s ∧ s ≤ 3 ∧ 0 ≤ v ∧ v ≤ 3 := by
  simp [lblOk, inB] at h; omega
theorem four {a : Int} (h0 : 0 ≤ a) (h1 : a ≤ 3) : a = 0 ∨ a = 1 ∨ a = 2 ∨ a = 3 := by omega
theorem orI_bd {a b : Int} (h0 : 0 ≤ a) (h1 : a ≤ 3) (h2 : 0 ≤ b) (h3 : b ≤ 3) : 0 ≤ orI a b ∧ orI a b ≤ 3 := by unfold orI; omega
theorem andI_bd {a b : Int} (h0 : 0 ≤ a) (h1 : a ≤ 3) (h2 : 0 ≤ b) (h3 : b ≤ 3) : 0 ≤ andI a b ∧ andI a b ≤ 3 := by unfold andI; omega
theorem andNot_sub {a b : Int} (h0 : 0 ≤ a) (h1 : a ≤ 3) (h2 : 0 ≤ b) (h3 : b ≤ 3) : (bits .andNot .u64 a b == 0) = subB a b := by
  rcases four h0 h1 with rfl | rfl | rfl | rfl <;> rcases four h2 h3 with rfl | rfl | rfl | rfl <;> decide
theorem or_orI {a b : Int} (h0 : 0 ≤ a) (h1 : a ≤ 3) (h2 : 0 ≤ b) (h3 : b ≤ 3) : bits .or .u64 a b = orI a b := by
  rcases four h0 h1 with rfl | rfl | rfl | rfl <;> rcases four h2 h3 with rfl | rfl | rfl | rfl <;> decide
theorem and_andI {a b : Int} (h0 : 0 ≤ a) (h1 : a ≤ 3) (h2 : 0 ≤ b) (h3 : b ≤ 3) : bits .and .u64 a b = andI a b := by
  rcases four h0 h1 with rfl | rfl | rfl | rfl <;> rcases four h2 h3 with rfl | rfl | rfl | rfl <;> decide

/-! ### Arguments that came in -/
/-- What the walk is told of a slice of integers that came in: it is nil; or it leads to a row of 'cap' cells, the numbers 'zs', each fitting its kind. -/
def IsRow (k : IntKind) (w : World) (a : Option Addr) (len cap : Nat) (zs : List Int) : Prop :=
  (a = none ∧ len = 0 ∧ cap = 0 ∧ zs = []) ∨
  ∃ x, a = some x ∧ len ≤ cap ∧ cap ≤ maxLen ∧ zs.length = cap ∧ (∀ i, i < zs.length → w.cell? (x.add i) = some (.int k (zs.getD i 0))) ∧ ∀ n ∈ zs, (Lit.int k n).wf = true

theorem IsRow.below {k : IntKind} {w w' : World} {a : Option Addr} {len cap : Nat} {zs : List Int} (h : IsRow k w a len cap zs) (hb : Below w.heap.size w w') : IsRow k w' a len cap zs := by
  rcases h with h | ⟨x, h1, h2, h3, h4, h5, h6⟩
  · exact .inl h
  · refine .inr ⟨x, h1, h2, h3, h4, fun i hi => ?_, h6⟩
    have h := h5 i hi
    by_cases hx : (x.add i).block < w.heap.size
    · rw [hb.cell hx]; exact h
    · rw [World.cell?] at h
      simp [show w.heap[(x.add i).block]? = none from by simp; omega] at h
theorem IsRow.alloc {k : IntKind} {w : World} {a : Option Addr} {len cap : Nat} {zs : List Int} (h : IsRow k w a len cap zs) (o : Obj) : IsRow k (w.alloc o) a len cap zs :=
  h.below ((Below.refl _ _).alloc (Nat.le_refl _) _)

theorem flat_of {H : Type} {enc : TypeId × Value → H} {P : Program} {w : World} {base : Nat} {spare : Nat → Bool} {held : Bool} {t : TypeId} {fs : Array Field} {r : Reach} {b0 : Nat} {v : Value} {d : DataW H} {p : List MemPlace}
    (hs : P.underlying t = some (.struct fs)) (hv : Value.okWide P w r b0 t v) (h : DataW.Trod enc P w base spare held t v d p) :
    ∃ (cs : Array Value) (n : Nat), v = .agg cs ∧ cs.size = P.cellsOf t ∧
      ∀ (i : Nat) (f : Field), fs[i]? = some f → ∃ x, DataW.trod enc P w base spare held n f.type ((cs.toList.drop f.offset).take (P.cellsOf f.type)) = some x := by
  obtain ⟨cs, rfl, hsz⟩ := okWide_struct hs hv
  obtain ⟨fuel, hf⟩ := h
  obtain ⟨xs, n, _, _, _, hlen, hg⟩ := DataW.trod_struct hs hf
  refine ⟨cs, n, rfl, hsz, fun i f hi => ?_⟩
  have hlt : i < xs.length := by rw [hlen]; exact (Array.getElem?_eq_some_iff.1 hi).1
  have := hg i f hi
  rw [List.getElem?_eq_getElem hlt] at this
  exact ⟨_, this⟩

set_option maxRecDepth 100000 in
theorem open_label {H : Type} {enc : TypeId × Value → H} {w : World} {base : Nat} {spare : Nat → Bool} {held : Bool} {r : Reach} {b0 : Nat} {v : Value} {d : DataW H} {p : List MemPlace}
    (hv : Value.okWide Tryd.prog w r b0 66 v) (h : DataW.Trod enc Tryd.prog w base spare held 66 v d p) :
    ∃ s k : Int, v = .agg #[.int .i64 s, .int .i64 k] ∧ (Lit.int .i64 s).wf = true ∧ (Lit.int .i64 k).wf = true := by
  obtain ⟨cs, n, rfl, hsz, hf⟩ := flat_of Tryd.underlying66 hv h
  have c : Tryd.prog.cellsOf 3 = 1 := by kernel_rfl
  have cT : Tryd.prog.cellsOf 66 = 2 := by kernel_rfl
  obtain ⟨_, e0⟩ := hf 0 _ rfl
  obtain ⟨s, q0, _, w0⟩ := DataW.trod_int Tryd.underlying3 e0
  obtain ⟨_, e1⟩ := hf 1 _ rfl
  obtain ⟨k, q1, _, w1⟩ := DataW.trod_int Tryd.underlying3 e1
  obtain ⟨l⟩ := cs
  match l, hsz.trans cT with
  | [a, b], _ =>
    simp [c] at q0 q1
    exact ⟨s, k, by rw [q0, q1], w0, w1⟩
set_option maxRecDepth 100000 in
theorem open_right {H : Type} {enc : TypeId × Value → H} {w : World} {base : Nat} {spare : Nat → Bool} {held : Bool} {r : Reach} {b0 : Nat} {v : Value} {d : DataW H} {p : List MemPlace}
    (hv : Value.okWide Tryd.prog w r b0 145 v) (h : DataW.Trod enc Tryd.prog w base spare held 145 v d p) :
    ∃ (s0 s1 : Int) (s2 s3 s4 : Bool), v = .agg #[.int .i64 s0, .int .i64 s1, .bool s2, .bool s3, .bool s4] := by
  obtain ⟨cs, n, rfl, hsz, hf⟩ := flat_of Tryd.underlying145 hv h
  have c : Tryd.prog.cellsOf 3 = 1 := by kernel_rfl
  have cb : Tryd.prog.cellsOf 4 = 1 := by kernel_rfl
  have cT : Tryd.prog.cellsOf 145 = 5 := by kernel_rfl
  obtain ⟨_, e0⟩ := hf 0 _ rfl
  obtain ⟨s0, q0, _, _⟩ := DataW.trod_int Tryd.underlying3 e0
  obtain ⟨_, e1⟩ := hf 1 _ rfl
  obtain ⟨s1, q1, _, _⟩ := DataW.trod_int Tryd.underlying3 e1
  obtain ⟨_, e2⟩ := hf 2 _ rfl
  obtain ⟨s2, q2, _⟩ := DataW.trod_bool Tryd.underlying4 e2
  obtain ⟨_, e3⟩ := hf 3 _ rfl
  obtain ⟨s3, q3, _⟩ := DataW.trod_bool Tryd.underlying4 e3
  obtain ⟨_, e4⟩ := hf 4 _ rfl
  obtain ⟨s4, q4, _⟩ := DataW.trod_bool Tryd.underlying4 e4
  obtain ⟨l⟩ := cs
  match l, hsz.trans cT with
  | [a0, a1, a2, a3, a4], _ =>
    simp [c, cb] at q0 q1 q2 q3 q4
    exact ⟨s0, s1, s2, s3, s4, by rw [q0, q1, q2, q3, q4]⟩
set_option maxRecDepth 100000 in
theorem open_bytes {H : Type} {enc : TypeId × Value → H} {w : World} {base : Nat} {held : Bool} {r : Reach} {b0 : Nat} {v : Value} {d : DataW H} {p : List MemPlace}
    (hv : Value.okWide Tryd.prog w r b0 22 v) (h : DataW.Trod enc Tryd.prog w base (fun _ => true) held 22 v d p) :
    ∃ (a : Option Addr) (len cap : Nat) (z : List Int), v = .slice a len cap ∧ IsRow .u8 w a len cap z := by
  obtain ⟨a, len, cap, rfl⟩ := okWide_slice Tryd.underlying22 hv
  obtain ⟨fuel, hf⟩ := h
  rcases open_ints Tryd.underlying22 Tryd.underlying5 (by kernel_rfl) hf with ⟨hcs, _⟩ | ⟨x, l, c, zs, hcs, _, hl, hm, hz, _, hcell, hwz⟩
  · simp [Value.cells] at hcs
    obtain ⟨rfl, rfl, rfl⟩ := hcs
    exact ⟨_, _, _, [], rfl, .inl ⟨rfl, rfl, rfl, rfl⟩⟩
  · simp [Value.cells] at hcs
    obtain ⟨rfl, rfl, rfl⟩ := hcs
    exact ⟨_, _, _, zs, rfl, .inr ⟨_, rfl, hl, hm, by simpa using hz, hcell, hwz⟩⟩
end Go.Proofs.YtcgmnpppdoadhaaDoor
