/- Tables that a draw owns: rows of things whose rows are owned too. No condition. -/
import Derived.Test.YtcgmnpppdoadhaaDoorOwn
namespace Go.Proofs.YtcgmnpppdoadhaaDoor
set_option maxRecDepth 100000
open Go.RowKit
set_option linter.unusedVariables false
set_option linter.unusedSimpArgs false

/-- A thing in plain cells: its numbers, and where its two rows lie. -/
structure Tc where
  k : Int
  s : Int
  v : Int
  ve : Int
  nu : Int
  sa : Option Addr
  sn : Nat
  sc : Nat
  qa : Option Addr
  qn : Nat
  qc : Nat
  tg : Int
def Tc.cells (x : Tc) : List Value := [.int .i64 x.k, .int .i64 x.s, .int .i64 x.v, .int .i64 x.ve, .int .i64 x.nu, .slice x.sa x.sn x.sc, .slice x.qa x.qn x.qc, .int .i64 x.tg]
def TcO (u : World) (base : Nat) (x : Tc) : Prop := SlO u base (.slice x.sa x.sn x.sc) ∧ QuO u base (.slice x.qa x.qn x.qc) 3
/-- A row of n things that a draw owns. -/
def TbO (u : World) (base n : Nat) (v : Value) : Prop := ∃ xs : List Tc, xs.length = n ∧ u.ownsRow base 36 8 v n (xs.flatMap Tc.cells) ∧ ∀ x ∈ xs, TcO u base x
/-- The eight cells of a thing at a place. -/
def AtC (u : World) (G o : Nat) (x : Tc) : Prop :=
  u.cell? ⟨G, o, none⟩ = some (.int .i64 x.k) ∧ u.cell? ⟨G, o + 1, none⟩ = some (.int .i64 x.s) ∧ u.cell? ⟨G, o + 2, none⟩ = some (.int .i64 x.v) ∧ u.cell? ⟨G, o + 3, none⟩ = some (.int .i64 x.ve) ∧ u.cell? ⟨G, o + 4, none⟩ = some (.int .i64 x.nu) ∧
    u.cell? ⟨G, o + 5, none⟩ = some (.slice x.sa x.sn x.sc) ∧ u.cell? ⟨G, o + 6, none⟩ = some (.slice x.qa x.qn x.qc) ∧ u.cell? ⟨G, o + 7, none⟩ = some (.int .i64 x.tg)

theorem infoTh : (Tryd.prog.info? 36).map (fun i => (i.zero, i.size, i.bytes)) = some (some (.agg #[.int .i64 0, .int .i64 0, .int .i64 0, .int .i64 0, .int .i64 0, .slice none 0 0, .slice none 0 0, .int .i64 0]), 8, 96) := by kernel_rfl
theorem flat8_len (xs : List Tc) : (xs.flatMap Tc.cells).length = xs.length * 8 := by
  induction xs with
  | nil => rfl
  | cons a rs ih => simp only [List.flatMap_cons, List.length_append, ih, Tc.cells, List.length_cons, List.length_nil]; omega
theorem flat8_at {xs : List Tc} {j : Nat} {x : Tc} (hx : xs[j]? = some x) {k : Nat} (hk : k < 8) : (xs.flatMap Tc.cells)[j * 8 + k]? = x.cells[k]? := by
  induction xs generalizing j with
  | nil => simp at hx
  | cons a rs ih =>
    cases j with
    | zero =>
      simp at hx
      subst hx
      rw [List.flatMap_cons, List.getElem?_append_left (by simp [Tc.cells]; omega)]
      simp
    | succ j =>
      rw [List.flatMap_cons, List.getElem?_append_right (by simp [Tc.cells]; omega)]
      have e : (j + 1) * 8 + k - a.cells.length = j * 8 + k := by simp [Tc.cells]; omega
      rw [e]
      exact ih (by simpa using hx)
theorem flat8_set0 {xs : List Tc} {j : Nat} {x : Tc} (hx : xs[j]? = some x) (y : Int) : (xs.flatMap Tc.cells).set (j * 8) (.int .i64 y) = (xs.set j { x with k := y }).flatMap Tc.cells := by
  induction xs generalizing j with
  | nil => simp at hx
  | cons a rs ih =>
    cases j with
    | zero => simp at hx; subst hx; simp [Tc.cells]
    | succ j =>
      have e0 : (j + 1) * 8 = j * 8 + 1 + 1 + 1 + 1 + 1 + 1 + 1 + 1 := by omega
      rw [e0]
      simp only [List.flatMap_cons, Tc.cells, List.cons_append, List.nil_append, List.set_cons_succ]
      rw [← ih (by simpa using hx)]
theorem flat8_set4 {xs : List Tc} {j : Nat} {x : Tc} (hx : xs[j]? = some x) (y : Int) : (xs.flatMap Tc.cells).set (j * 8 + 4) (.int .i64 y) = (xs.set j { x with nu := y }).flatMap Tc.cells := by
  induction xs generalizing j with
  | nil => simp at hx
  | cons a rs ih =>
    cases j with
    | zero => simp at hx; subst hx; simp [Tc.cells]
    | succ j =>
      have e0 : (j + 1) * 8 + 4 = j * 8 + 4 + 1 + 1 + 1 + 1 + 1 + 1 + 1 + 1 := by omega
      rw [e0]
      simp only [List.flatMap_cons, Tc.cells, List.cons_append, List.nil_append, List.set_cons_succ]
      rw [← ih (by simpa using hx)]

theorem TcO.below {u u' : World} {base : Nat} {x : Tc} (h : TcO u base x) (hb : Below u.heap.size u u') : TcO u' base x := ⟨h.1.below hb, h.2.below hb⟩
theorem TcO.kept {y : Nat} {u u' : World} {base : Nat} {x : Tc} (h : TcO u base x) (hk : Kept y u u') (hy : y < base) : TcO u' base x := ⟨h.1.kept hk hy, h.2.kept hk hy⟩
theorem TcO.mono {u : World} {base base' : Nat} {x : Tc} (h : TcO u base x) (hb : base' ≤ base) : TcO u base' x := ⟨h.1.mono hb, h.2.mono hb (Nat.le_refl _)⟩
theorem TbO.below {u u' : World} {base n : Nat} {v : Value} (h : TbO u base n v) (hb : Below u.heap.size u u') : TbO u' base n v := by
  obtain ⟨xs, h1, h2, h3⟩ := h; exact ⟨xs, h1, ownsRow_below h2 hb, fun x hx => (h3 x hx).below hb⟩
theorem TbO.kept {y : Nat} {u u' : World} {base n : Nat} {v : Value} (h : TbO u base n v) (hk : Kept y u u') (hy : y < base) : TbO u' base n v := by
  obtain ⟨xs, h1, h2, h3⟩ := h; exact ⟨xs, h1, ownsRow_kept h2 hk hy, fun x hx => (h3 x hx).kept hk hy⟩
theorem TbO.mono {u : World} {base base' n : Nat} {v : Value} (h : TbO u base n v) (hb : base' ≤ base) : TbO u base' n v := by
  obtain ⟨xs, h1, h2, h3⟩ := h; exact ⟨xs, h1, ownsRow_mono h2 hb, fun x hx => (h3 x hx).mono hb⟩
theorem TbO.empty {u : World} {base B : Nat} (hb : base ≤ B) (h : u.heap[B]? = some (.cells #[] 36 (0, 0))) : TbO u base 0 (.slice (some ⟨B, 0, none⟩) 0 0) :=
  ⟨[], rfl, ⟨rfl, .inr ⟨B, 0, #[], rfl, hb, h, Nat.le_refl _, by unfold maxLen; omega, rfl, rfl⟩⟩, by simp⟩
theorem TbO.slice {u : World} {base n : Nat} {v : Value} (h : TbO u base n v) : ∃ a c, v = .slice a n c := by
  obtain ⟨rs, h1, ⟨_, h2⟩, _⟩ := h
  rcases h2 with ⟨rfl, h3⟩ | ⟨g, cap, cur, rfl, _⟩
  · exact ⟨_, _, by rw [h3]⟩
  · exact ⟨_, _, rfl⟩
theorem TbO.setR {u : World} {base n : Nat} {v : Value} (h : TbO u base n v) {g : Nat} {cs : Array Value} {fr : Nat × Nat} (hT : u.heap[g]? = some (.cells cs 38 fr)) (j : Nat) (r : Rt) : TbO (setR u g (j * 5) r) base n v := by
  obtain ⟨xs, h1, h2, h3⟩ := h; exact ⟨xs, h1, ownsRow_setR h2 hT (by decide) _ _, fun x hx => ⟨(h3 x hx).1.setR _ _ _, (h3 x hx).2.setR hT _ _⟩⟩
/-- Where a row of things is not empty it has a block. -/
theorem TbO.row {u : World} {base n : Nat} {v : Value} (h : TbO u base n v) (hn : 0 < n) : ∃ (G c : Nat) (cs : Array Value), v = .slice (some ⟨G, 0, none⟩) n c ∧ base ≤ G ∧ u.heap[G]? = some (.cells cs 36 (0, 0)) ∧ n * 8 ≤ cs.size := by
  obtain ⟨xs, h1, ⟨_, h2⟩, h3⟩ := h
  rcases h2 with ⟨rfl, h4⟩ | ⟨g, cap, cur, rfl, hbg, hgg, h5, hcap, hsz, htake⟩
  · omega
  · refine ⟨g, cap, cur, rfl, hbg, hgg, ?_⟩
    have : n * 8 ≤ cap * 8 := Nat.mul_le_mul_right 8 h5
    omega
theorem TbO.get {u : World} {base n G c : Nat} (h : TbO u base n (.slice (some ⟨G, 0, none⟩) n c)) {j : Nat} (hj : j < n) : ∃ x : Tc, TcO u base x ∧ AtC u G (j * 8) x := by
  obtain ⟨xs, h1, ⟨h20, h2⟩, h3⟩ := h
  rcases h2 with ⟨h4, h5⟩ | ⟨g, cap, cur, h4, hbg, hgg, h5, hcap, hsz, htake⟩
  · omega
  · cases h4
    obtain ⟨x, hx⟩ : ∃ x, xs[j]? = some x := ⟨xs[j]'(by omega), by simp [h1, hj]⟩
    refine ⟨x, h3 x (List.mem_of_getElem? hx), ?_⟩
    have hc : ∀ k, k < 8 → ∀ v, x.cells[k]? = some v → u.cell? ⟨G, j * 8 + k, none⟩ = some v := by
      intro k hk v hv
      rw [(own_cells hgg).1]
      have e : cur.toList[j * 8 + k]? = (cur.toList.take (n * 8))[j * 8 + k]? := by
        rw [List.getElem?_take, if_pos (by omega)]
      rw [← Array.getElem?_toList, e, htake, flat8_at hx hk]
      exact hv
    exact ⟨hc 0 (by omega) _ rfl, hc 1 (by omega) _ rfl, hc 2 (by omega) _ rfl, hc 3 (by omega) _ rfl, hc 4 (by omega) _ rfl, hc 5 (by omega) _ rfl, hc 6 (by omega) _ rfl, hc 7 (by omega) _ rfl⟩
theorem TbO.put0 {u : World} {base n G c : Nat} (h : TbO u base n (.slice (some ⟨G, 0, none⟩) n c)) {j : Nat} (hj : j < n) (y : Int) : TbO (u.setCell ⟨G, j * 8, none⟩ (.int .i64 y)) base n (.slice (some ⟨G, 0, none⟩) n c) := by
  obtain ⟨xs, h1, ⟨h20, h2⟩, h3⟩ := h
  rcases h2 with ⟨h4, h5⟩ | ⟨g, cap, cur, h4, hbg, hgg, h5, hcap, hsz, htake⟩
  · omega
  · cases h4
    obtain ⟨x, hx⟩ : ∃ x, xs[j]? = some x := ⟨xs[j]'(by omega), by simp [h1, hj]⟩
    refine ⟨xs.set j { x with k := y }, by simpa using h1, ⟨by rw [flat8_len]; simp [h1], .inr ⟨G, c, _, rfl, hbg, own_set hgg _ _, h5, hcap, by simpa using hsz, ?_⟩⟩, ?_⟩
    · rw [← flat8_set0 hx, ← htake]
      simp only [Array.toList_setIfInBounds, List.take_set]
    · intro z hz
      have hz' : TcO u base z := by
        rcases List.mem_or_eq_of_mem_set hz with hz | rfl
        · exact h3 z hz
        · exact h3 x (List.mem_of_getElem? hx)
      exact ⟨hz'.1.setT hgg _ _, hz'.2.setT hgg _ _⟩
theorem TbO.put4 {u : World} {base n G c : Nat} (h : TbO u base n (.slice (some ⟨G, 0, none⟩) n c)) {j : Nat} (hj : j < n) (y : Int) : TbO (u.setCell ⟨G, j * 8 + 4, none⟩ (.int .i64 y)) base n (.slice (some ⟨G, 0, none⟩) n c) := by
  obtain ⟨xs, h1, ⟨h20, h2⟩, h3⟩ := h
  rcases h2 with ⟨h4, h5⟩ | ⟨g, cap, cur, h4, hbg, hgg, h5, hcap, hsz, htake⟩
  · omega
  · cases h4
    obtain ⟨x, hx⟩ : ∃ x, xs[j]? = some x := ⟨xs[j]'(by omega), by simp [h1, hj]⟩
    refine ⟨xs.set j { x with nu := y }, by simpa using h1, ⟨by rw [flat8_len]; simp [h1], .inr ⟨G, c, _, rfl, hbg, own_set hgg _ _, h5, hcap, by simpa using hsz, ?_⟩⟩, ?_⟩
    · rw [← flat8_set4 hx, ← htake]
      simp only [Array.toList_setIfInBounds, List.take_set]
    · intro z hz
      have hz' : TcO u base z := by
        rcases List.mem_or_eq_of_mem_set hz with hz | rfl
        · exact h3 z hz
        · exact h3 x (List.mem_of_getElem? hx)
      exact ⟨hz'.1.setT hgg _ _, hz'.2.setT hgg _ _⟩
theorem TcO.grown {u u' : World} {base : Nat} {v : Value} {n : Nat} {xs : List Value} (h : u.ownsRow base 36 8 v n xs) (g : u.grownBy u' v.ownBlock) {x : Tc} (hx : TcO u base x) : TcO u' base x := by
  obtain ⟨⟨rs, h1, h2⟩, ⟨zs, h3, h4⟩⟩ := hx
  exact ⟨⟨rs, h1, ownsRow_grown h g h2 (by decide)⟩, ⟨zs, h3, ownsRow_grown h g h4 (by decide)⟩⟩
theorem TbO.snoc {u u' : World} {base n : Nat} {v v' : Value} {xs : List Tc} (hl : xs.length = n) (h : u.ownsRow base 36 8 v n (xs.flatMap Tc.cells)) (hx : ∀ x ∈ xs, TcO u base x) (g : u.grownBy u' v.ownBlock) {x : Tc} (h0 : TcO u base x)
    (h' : u'.ownsRow base 36 8 v' (n + 1) (xs.flatMap Tc.cells ++ x.cells)) : TbO u' base (n + 1) v' := by
  refine ⟨xs ++ [x], by simp [hl], by simpa using h', fun z hz => ?_⟩
  rcases List.mem_append.1 hz with hz | hz
  · exact (hx z hz).grown h g
  · rw [List.mem_singleton.1 hz]; exact h0.grown h g
/-- A row that a draw owns, in plain data. -/
theorem TbO.open {u : World} {base n : Nat} {a : Option Addr} {m c : Nat} (h : TbO u base n (.slice a m c)) : ∃ ts : List Th, ts.length = n ∧ m = n ∧ RowT u a ts := by
  obtain ⟨xs, h1, ⟨h20, h2⟩, h3⟩ := h
  rcases h2 with ⟨h4, h5⟩ | ⟨g, cap, cur, h4, hbg, hgg, h5, hcap, hsz, htake⟩
  · cases h4
    exact ⟨[], by simp [h5], h5.symm, .inl rfl⟩
  · cases h4
    have hf : ∀ x : Tc, ∃ t : Th, x ∈ xs → (t.kind = x.k ∧ t.sec = x.s ∧ t.vou = x.v ∧ t.vers = x.ve ∧ t.num = x.nu ∧ t.slots.length = x.sn ∧ t.queue.length = x.qn ∧ t.tg = x.tg ∧ RowR u x.sa t.slots ∧ RowI u x.qa t.queue) := by
      intro x
      by_cases hx : x ∈ xs
      · obtain ⟨hS, hQ⟩ := h3 x hx
        obtain ⟨rs, r1, _, r2⟩ := hS.open
        obtain ⟨zs, z1, _, z2⟩ := hQ.open
        exact ⟨⟨x.k, x.s, x.v, x.ve, x.nu, rs, zs, x.tg⟩, fun _ => ⟨rfl, rfl, rfl, rfl, rfl, r1, z1, rfl, r2, z2⟩⟩
      · exact ⟨⟨0, 0, 0, 0, 0, [], [], 0⟩, fun h => absurd h hx⟩
    obtain ⟨f, hf⟩ := Classical.skolem.1 hf
    refine ⟨xs.map f, by simpa using h1, rfl, .inr ⟨g, 0, rfl, own_lt hgg, by unfold maxLen at hcap; simp; omega, fun i t ht => ?_⟩⟩
    rw [List.getElem?_map] at ht
    cases hx : xs[i]? with
    | none => simp [hx] at ht
    | some x =>
      simp [hx] at ht
      obtain ⟨q0, q1, q2, q3, q4, q5, q6, q7, q8, q9⟩ := hf x (List.mem_of_getElem? hx)
      rw [ht] at q0 q1 q2 q3 q4 q5 q6 q7 q8 q9
      have hi : i < xs.length := (List.getElem?_eq_some_iff.1 hx).1
      have hc : ∀ k, k < 8 → ∀ v, x.cells[k]? = some v → u.cell? ⟨g, 0 + i * 8 + k, none⟩ = some v := by
        intro k hk v hv
        rw [(own_cells hgg).1]
        have e : cur.toList[0 + i * 8 + k]? = (cur.toList.take (n * 8))[0 + i * 8 + k]? := by
          rw [List.getElem?_take, if_pos (by omega)]
        rw [← Array.getElem?_toList, e, htake, Nat.zero_add, flat8_at hx hk]
        exact hv
      exact ⟨x.sa, x.sc, x.qa, x.qc, by rw [q0]; exact hc 0 (by omega) _ rfl, by rw [q1]; exact hc 1 (by omega) _ rfl, by rw [q2]; exact hc 2 (by omega) _ rfl, by rw [q3]; exact hc 3 (by omega) _ rfl,
        by rw [q4]; exact hc 4 (by omega) _ rfl, by rw [q5]; exact hc 5 (by omega) _ rfl, by rw [q6]; exact hc 6 (by omega) _ rfl, by rw [q7]; exact hc 7 (by omega) _ rfl, q8, q9⟩
end Go.Proofs.YtcgmnpppdoadhaaDoor
