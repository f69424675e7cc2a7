/- How things and rows of things that came in are opened to their plain data. No condition. -/
import Derived.Test.YtcgmnpppdoadhaaDoorThg2
import Derived.Deep.Slices
namespace Go.Proofs.YtcgmnpppdoadhaaDoor
set_option maxRecDepth 100000
open Go.ChangeShapes Go.WideShapes Go.ChangeAt Go.RowKit Go.Deep
set_option linter.unusedVariables false
set_option linter.unusedSimpArgs false

/-- The eight cells of a thing, and where its two rows lie. -/
def At8 (w : World) (b o : Nat) (t : Th) : Prop :=
  ∃ (sa : Option Addr) (sc : Nat) (qa : Option Addr) (qc : Nat), w.cell? ⟨b, o, none⟩ = some (.int .i64 t.kind) ∧ w.cell? ⟨b, o + 1, none⟩ = some (.int .i64 t.sec) ∧ w.cell? ⟨b, o + 2, none⟩ = some (.int .i64 t.vou) ∧ w.cell? ⟨b, o + 3, none⟩ = some (.int .i64 t.vers) ∧ w.cell? ⟨b, o + 4, none⟩ = some (.int .i64 t.num) ∧
    w.cell? ⟨b, o + 5, none⟩ = some (.slice sa t.slots.length sc) ∧ w.cell? ⟨b, o + 6, none⟩ = some (.slice qa t.queue.length qc) ∧ w.cell? ⟨b, o + 7, none⟩ = some (.int .i64 t.tg) ∧ RowR w sa t.slots ∧ RowI w qa t.queue
/-- A row of things. -/
def RowT (w : World) (a : Option Addr) (ts : List Th) : Prop :=
  ts = [] ∨ ∃ b off, a = some ⟨b, off, none⟩ ∧ b < w.heap.size ∧ ts.length ≤ 9223372036854775807 ∧ ∀ i t, ts[i]? = some t → At8 w b (off + i * 8) t
theorem At8.below {w w' : World} {b o : Nat} {t : Th} (h : At8 w b o t) (hb : Below w.heap.size w w') (hlt : b < w.heap.size) : At8 w' b o t := by
  obtain ⟨sa, sc, qa, qc, h0, h1, h2, h3, h4, h5, h6, h7, h8, h9⟩ := h
  have c : ∀ o, w'.cell? ⟨b, o, none⟩ = w.cell? ⟨b, o, none⟩ := fun o => hb.cell (p := ⟨b, o, none⟩) hlt
  exact ⟨sa, sc, qa, qc, (c _).trans h0, (c _).trans h1, (c _).trans h2, (c _).trans h3, (c _).trans h4, (c _).trans h5, (c _).trans h6, (c _).trans h7, h8.below hb, h9.below hb⟩
theorem RowT.below {w w' : World} {a : Option Addr} {ts : List Th} (h : RowT w a ts) (hb : Below w.heap.size w w') : RowT w' a ts := by
  rcases h with h | ⟨b, off, h1, h2, hl, h3⟩
  · exact .inl h
  · exact .inr ⟨b, off, h1, Nat.lt_of_lt_of_le h2 hb.size, hl, fun i t ht => (h3 i t ht).below hb h2⟩
theorem RowT.len {w : World} {a : Option Addr} {ts : List Th} (h : RowT w a ts) : ts.length ≤ 9223372036854775807 := by
  rcases h with rfl | ⟨b, off, h1, h2, hl, h3⟩
  · simp
  · exact hl
theorem RowT.at {w : World} {a : Option Addr} {ts : List Th} (h : RowT w a ts) {k : Nat} (hk : k < ts.length) : ∃ b off t, a = some ⟨b, off, none⟩ ∧ ts[k]? = some t ∧ b < w.heap.size ∧ At8 w b (off + k * 8) t := by
  rcases h with rfl | ⟨b, off, h1, h2, hl, h3⟩
  · simp at hk
  · exact ⟨b, off, ts[k], h1, by simp [hk], h2, h3 k _ (by simp [hk])⟩

theorem flat_cells {H : Type} {enc : TypeId × Value → H} {P : Program} {w : World} {base : Nat} {spare : Nat → Bool} {held : Bool} {t : TypeId} {fs : Array Field} {fuel : Nat} {cs : List Value} {x : DataW H × List MemPlace}
    (hs : P.underlying t = some (.struct fs)) (h : DataW.trod enc P w base spare held fuel t cs = some x) :
    ∃ n, cs.length = P.cellsOf t ∧ ∀ (i : Nat) (f : Field), fs[i]? = some f → ∃ x, DataW.trod enc P w base spare held n f.type ((cs.drop f.offset).take (P.cellsOf f.type)) = some x := by
  obtain ⟨xs, n, _, _, hl, hlen, hg⟩ := DataW.trod_struct hs h
  refine ⟨n, hl, fun i f hi => ?_⟩
  have hlt : i < xs.length := by rw [hlen]; exact (Array.getElem?_eq_some_iff.1 hi).1
  have := hg i f hi
  rw [List.getElem?_eq_getElem hlt] at this
  exact ⟨_, this⟩
instance : Inhabited Rt := ⟨⟨0, 0, false, false, false⟩⟩
instance : Inhabited Th := ⟨⟨0, 0, 0, 0, 0, [], [], 0⟩⟩
theorem add_none {a : Addr} (h : a.spot = none) (i : Nat) : a.add i = ⟨a.block, a.off + i, none⟩ := by
  obtain ⟨b, o, s⟩ := a
  cases h
  unfold Addr.add
  split
  · subst_vars; rfl
  · rfl
theorem cell_lt {w : World} {a : Addr} {v : Value} (h : w.cell? a = some v) : a.block < w.heap.size := by
  apply Classical.byContradiction
  intro hb
  simp [World.cell?, Array.getElem?_eq_none (show w.heap.size ≤ a.block from by omega)] at h
set_option maxRecDepth 100000 in
theorem open_rt {H : Type} {enc : TypeId × Value → H} {w : World} {base : Nat} {spare : Nat → Bool} {held : Bool} {fuel : Nat} {cs : List Value} {x : DataW H × List MemPlace}
    (h : DataW.trod enc Tryd.prog w base spare held fuel 145 cs = some x) : ∃ r : Rt, cs = [.int .i64 r.t, .int .i64 r.v, .bool r.r, .bool r.w, .bool r.k] := by
  obtain ⟨n, hsz, hf⟩ := flat_cells Tryd.underlying145 h
  have c : Tryd.prog.cellsOf 3 = 1 := by kernel_rfl
  have cb : Tryd.prog.cellsOf 4 = 1 := by kernel_rfl
  have cT : Tryd.prog.cellsOf 145 = 5 := by kernel_rfl
  obtain ⟨_, e0⟩ := hf 0 _ rfl
  obtain ⟨s0, q0, _, _⟩ := DataW.trod_int Tryd.underlying3 e0
  obtain ⟨_, e1⟩ := hf 1 _ rfl
  obtain ⟨s1, q1, _, _⟩ := DataW.trod_int Tryd.underlying3 e1
  obtain ⟨_, e2⟩ := hf 2 _ rfl
  obtain ⟨s2, q2, _⟩ := DataW.trod_bool Tryd.underlying4 e2
  obtain ⟨_, e3⟩ := hf 3 _ rfl
  obtain ⟨s3, q3, _⟩ := DataW.trod_bool Tryd.underlying4 e3
  obtain ⟨_, e4⟩ := hf 4 _ rfl
  obtain ⟨s4, q4, _⟩ := DataW.trod_bool Tryd.underlying4 e4
  match cs, hsz.trans cT with
  | [a0, a1, a2, a3, a4], _ =>
    simp [c, cb] at q0 q1 q2 q3 q4
    exact ⟨⟨s0, s1, s2, s3, s4⟩, by rw [q0, q1, q2, q3, q4]⟩
theorem open_rts {H : Type} {enc : TypeId × Value → H} {w : World} {base : Nat} {spare : Nat → Bool} {held : Bool} {fuel : Nat} {cs : List Value} {x : DataW H × List MemPlace}
    (h : DataW.trod enc Tryd.prog w base spare held fuel 67 cs = some x) : ∃ (a : Option Addr) (cap : Nat) (rs : List Rt), cs = [.slice a rs.length cap] ∧ RowR w a rs := by
  rcases open_slice Tryd.underlying67 h with ⟨rfl, _⟩ | ⟨a, len, cap, m, n, D, Pl, rfl, hb, hl, hm, hmm, _, hi⟩
  · exact ⟨none, 0, [], rfl, .inl rfl⟩
  · have hlm : len ≤ m := by rw [hmm]; split <;> omega
    have cT : Tryd.prog.cellsOf 145 = 5 := by kernel_rfl
    rw [cT] at hi
    have hx : ∀ i, i < len → ∃ r : Rt, w.cell? (a.add (i * 5)) = some (.int .i64 r.t) ∧ w.cell? (a.add (i * 5 + 1)) = some (.int .i64 r.v) ∧ w.cell? (a.add (i * 5 + 2)) = some (.bool r.r) ∧ w.cell? (a.add (i * 5 + 3)) = some (.bool r.w) ∧ w.cell? (a.add (i * 5 + 4)) = some (.bool r.k) := fun i hil => by
      obtain ⟨cs', hc, ht⟩ := hi i (by omega)
      obtain ⟨_, hcl, hat⟩ := World.cells?_some hc
      obtain ⟨r, rfl⟩ := open_rt ht
      refine ⟨r, ?_, ?_, ?_, ?_, ?_⟩
      · have := hat 0 (by omega); simpa [add_add] using this
      · have := hat 1 (by omega); simpa [add_add] using this
      · have := hat 2 (by omega); simpa [add_add] using this
      · have := hat 3 (by omega); simpa [add_add] using this
      · have := hat 4 (by omega); simpa [add_add] using this
    obtain ⟨f, hf⟩ := choose_lt hx
    refine ⟨some a, cap, (List.range len).map f, by simp, ?_⟩
    rcases Nat.eq_zero_or_pos len with rfl | hpos
    · exact .inl rfl
    · have h0 := (hf 0 hpos).1
      rw [show a.add (0 * 5) = a from rfl] at h0
      have hsp : a.spot = none := World.cell?_spot h0
      obtain ⟨b, off, sp⟩ := a
      obtain rfl : sp = none := hsp
      refine .inr ⟨b, off, rfl, cell_lt h0, by unfold maxLen at hm; simp; omega, fun i r hr => ?_⟩
      have hil : i < len := by
        have := (List.getElem?_eq_some_iff.1 hr).1
        simpa using this
      obtain rfl : f i = r := by simpa [hil] using hr
      obtain ⟨g0, g1, g2, g3, g4⟩ := hf i hil
      rw [add_none rfl] at g0 g1 g2 g3 g4
      exact ⟨g0, g1, g2, g3, g4⟩
theorem open_nums {H : Type} {enc : TypeId × Value → H} {w : World} {base : Nat} {spare : Nat → Bool} {held : Bool} {fuel : Nat} {cs : List Value} {x : DataW H × List MemPlace}
    (h : DataW.trod enc Tryd.prog w base spare held fuel 34 cs = some x) : ∃ (a : Option Addr) (cap : Nat) (zs : List Int), cs = [.slice a zs.length cap] ∧ RowI w a zs := by
  rcases open_slice1 Tryd.underlying34 (by kernel_rfl) h with ⟨rfl, _⟩ | ⟨a, len, cap, m, n, V, D, Pl, rfl, hb, hl, hm, hmm, _, hi⟩
  · exact ⟨none, 0, [], rfl, .inl rfl⟩
  · have hlm : len ≤ m := by rw [hmm]; split <;> omega
    have hx : ∀ i, i < len → ∃ z : Int, w.cell? (a.add i) = some (.int .i64 z) := fun i hil => by
      obtain ⟨hc, ht⟩ := hi i (by omega)
      obtain ⟨z, q, _, _⟩ := DataW.trod_int Tryd.underlying3 ht
      simp at q
      exact ⟨z, q ▸ hc⟩
    obtain ⟨f, hf⟩ := choose_lt hx
    refine ⟨some a, cap, (List.range len).map f, by simp, ?_⟩
    rcases Nat.eq_zero_or_pos len with rfl | hpos
    · exact .inl rfl
    · have h0 := hf 0 hpos
      rw [show a.add 0 = a from rfl] at h0
      have hsp : a.spot = none := World.cell?_spot h0
      obtain ⟨b, off, sp⟩ := a
      obtain rfl : sp = none := hsp
      refine .inr ⟨b, off, rfl, cell_lt h0, by unfold maxLen at hm; simp; omega, fun i z hz => ?_⟩
      have hil : i < len := by
        have := (List.getElem?_eq_some_iff.1 hz).1
        simpa using this
      obtain rfl : f i = z := by simpa [hil] using hz
      have g0 := hf i hil
      rw [add_none rfl] at g0
      exact g0
set_option maxRecDepth 100000 in
theorem open_th {H : Type} {enc : TypeId × Value → H} {w : World} {base : Nat} {spare : Nat → Bool} {held : Bool} {fuel : Nat} {cs : List Value} {x : DataW H × List MemPlace}
    (h : DataW.trod enc Tryd.prog w base spare held fuel 69 cs = some x) : ∃ (t : Th) (sa qa : Option Addr) (sc qc : Nat), cs = [.int .i64 t.kind, .int .i64 t.sec, .int .i64 t.vou, .int .i64 t.vers, .int .i64 t.num, .slice sa t.slots.length sc, .slice qa t.queue.length qc, .int .i64 t.tg] ∧ RowR w sa t.slots ∧ RowI w qa t.queue := by
  obtain ⟨n, hsz, hf⟩ := flat_cells Tryd.underlying69 h
  have c : Tryd.prog.cellsOf 3 = 1 := by kernel_rfl
  have cL : Tryd.prog.cellsOf 66 = 2 := by kernel_rfl
  have cR : Tryd.prog.cellsOf 67 = 1 := by kernel_rfl
  have cI : Tryd.prog.cellsOf 34 = 1 := by kernel_rfl
  have cT : Tryd.prog.cellsOf 69 = 8 := by kernel_rfl
  obtain ⟨_, e0⟩ := hf 0 _ rfl
  obtain ⟨s0, q0, _, _⟩ := DataW.trod_int Tryd.underlying3 e0
  obtain ⟨_, e1⟩ := hf 1 _ rfl
  obtain ⟨n1, hsz1, hf1⟩ := flat_cells Tryd.underlying66 e1
  obtain ⟨_, e10⟩ := hf1 0 _ rfl
  obtain ⟨s1, q1, _, _⟩ := DataW.trod_int Tryd.underlying3 e10
  obtain ⟨_, e11⟩ := hf1 1 _ rfl
  obtain ⟨s2, q2, _, _⟩ := DataW.trod_int Tryd.underlying3 e11
  obtain ⟨_, e2⟩ := hf 2 _ rfl
  obtain ⟨s3, q3, _, _⟩ := DataW.trod_int Tryd.underlying3 e2
  obtain ⟨_, e3⟩ := hf 3 _ rfl
  obtain ⟨s4, q4, _, _⟩ := DataW.trod_int Tryd.underlying3 e3
  obtain ⟨_, e4⟩ := hf 4 _ rfl
  obtain ⟨sa, sc, rs, q5, hr⟩ := open_rts e4
  obtain ⟨_, e5⟩ := hf 5 _ rfl
  obtain ⟨qa, qc, zs, q6, hz⟩ := open_nums e5
  obtain ⟨_, e6⟩ := hf 6 _ rfl
  obtain ⟨s7, q7, _, _⟩ := DataW.trod_int Tryd.underlying3 e6
  match cs, hsz.trans cT with
  | [a0, a1, a2, a3, a4, a5, a6, a7], _ =>
    simp [c, cL, cR, cI] at q0 q1 q2 q3 q4 q5 q6 q7
    exact ⟨⟨s0, s1, s2, s3, s4, rs, zs, s7⟩, sa, qa, sc, qc, by rw [q0, q1, q2, q3, q4, q5, q6, q7], hr, hz⟩
theorem open_thing {H : Type} {enc : TypeId × Value → H} {w : World} {base : Nat} {spare : Nat → Bool} {held : Bool} {r : Reach} {b0 : Nat} {v : Value} {d : DataW H} {p : List MemPlace}
    (hv : Value.okWide Tryd.prog w r b0 69 v) (h : DataW.Trod enc Tryd.prog w base spare held 69 v d p) :
    ∃ (t : Th) (sa qa : Option Addr) (sc qc : Nat), v = .agg #[.int .i64 t.kind, .int .i64 t.sec, .int .i64 t.vou, .int .i64 t.vers, .int .i64 t.num, .slice sa t.slots.length sc, .slice qa t.queue.length qc, .int .i64 t.tg] ∧ RowR w sa t.slots ∧ RowI w qa t.queue := by
  obtain ⟨cs, rfl, hsz⟩ := okWide_struct Tryd.underlying69 hv
  obtain ⟨fuel, hf⟩ := h
  obtain ⟨t, sa, qa, sc, qc, e, h1, h2⟩ := open_th hf
  refine ⟨t, sa, qa, sc, qc, ?_, h1, h2⟩
  obtain ⟨l⟩ := cs
  have e' : l = _ := e
  rw [e']
end Go.Proofs.YtcgmnpppdoadhaaDoor
