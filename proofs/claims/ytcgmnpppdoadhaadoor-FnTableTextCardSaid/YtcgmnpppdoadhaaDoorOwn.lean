/- Rows that a draw owns, where the world changes. No condition. -/
import Derived.Test.YtcgmnpppdoadhaaDoorNew3
import Derived.Test.YtcgmnpppdoadhaaDoorOpen
import Derived.Test.YtcgmnpppdoadhaaDoorRead
namespace Go.Proofs.YtcgmnpppdoadhaaDoor
set_option maxRecDepth 100000
open Go.RowKit
set_option linter.unusedVariables false
set_option linter.unusedSimpArgs false

theorem ownsRow_kept {x : Nat} {w w' : World} {base : Nat} {e : TypeId} {size : Nat} {v : Value} {n : Nat} {xs : List Value} (h : w.ownsRow base e size v n xs) (hk : Kept x w w') (hx : x < base) : w'.ownsRow base e size v n xs := by
  refine ⟨h.1, ?_⟩
  rcases h.2 with hn | ⟨g, cap, cur, rfl, hbg, hgg, rest⟩
  · exact .inl hn
  · exact .inr ⟨g, cap, cur, rfl, hbg, own_kept hk (by omega) hgg, rest⟩
theorem ownsRow_setT {w : World} {base : Nat} {e : TypeId} {size : Nat} {v : Value} {n : Nat} {xs : List Value} (h : w.ownsRow base e size v n xs) {B : Nat} {cs : Array Value} {T : TypeId} {fr : Nat × Nat} (hT : w.heap[B]? = some (.cells cs T fr)) (hne : T ≠ e) (o : Nat) (u : Value) :
    (w.setCell ⟨B, o, none⟩ u).ownsRow base e size v n xs := by
  refine ⟨h.1, ?_⟩
  rcases h.2 with hn | ⟨g, cap, cur, rfl, hbg, hgg, rest⟩
  · exact .inl hn
  · refine .inr ⟨g, cap, cur, rfl, hbg, own_set_ne hgg (p := ⟨B, o, none⟩) ?_ u, rest⟩
    rintro rfl
    simp only [hgg] at hT
    cases hT
    exact hne rfl
theorem SlO.kept {x : Nat} {w w' : World} {base : Nat} {v : Value} (h : SlO w base v) (hk : Kept x w w') (hx : x < base) : SlO w' base v := by
  obtain ⟨rs, h1, h2⟩ := h; exact ⟨rs, h1, ownsRow_kept h2 hk hx⟩
theorem QuO.kept {x : Nat} {w w' : World} {base n : Nat} {v : Value} (h : QuO w base v n) (hk : Kept x w w') (hx : x < base) : QuO w' base v n := by
  obtain ⟨rs, h1, h2⟩ := h; exact ⟨rs, h1, ownsRow_kept h2 hk hx⟩
theorem SlO.setT {w : World} {base : Nat} {v : Value} (h : SlO w base v) {B : Nat} {cs : Array Value} {fr : Nat × Nat} (hT : w.heap[B]? = some (.cells cs 36 fr)) (o : Nat) (u : Value) : SlO (w.setCell ⟨B, o, none⟩ u) base v := by
  obtain ⟨rs, h1, h2⟩ := h; exact ⟨rs, h1, ownsRow_setT h2 hT (by decide) o u⟩
theorem QuO.setT {w : World} {base n : Nat} {v : Value} (h : QuO w base v n) {B : Nat} {cs : Array Value} {fr : Nat × Nat} (hT : w.heap[B]? = some (.cells cs 36 fr)) (o : Nat) (u : Value) : QuO (w.setCell ⟨B, o, none⟩ u) base v n := by
  obtain ⟨rs, h1, h2⟩ := h; exact ⟨rs, h1, ownsRow_setT h2 hT (by decide) o u⟩

theorem SlO.slice {w : World} {base : Nat} {v : Value} (h : SlO w base v) : ∃ a n c, v = .slice a n c ∧ n ≤ 4 := by
  obtain ⟨rs, h1, _, h2⟩ := h
  rcases h2 with ⟨rfl, h3⟩ | ⟨g, cap, cur, rfl, _⟩
  · exact ⟨_, _, _, rfl, by omega⟩
  · exact ⟨_, _, _, rfl, h1⟩
theorem QuO.slice {w : World} {base m : Nat} {v : Value} (h : QuO w base v m) : ∃ a n c, v = .slice a n c ∧ n ≤ m := by
  obtain ⟨rs, h1, _, h2⟩ := h
  rcases h2 with ⟨rfl, h3⟩ | ⟨g, cap, cur, rfl, _⟩
  · exact ⟨_, _, _, rfl, by omega⟩
  · exact ⟨_, _, _, rfl, h1⟩
theorem Rd.under {x B : Nat} {p : Int} {w w' : World} (h : Rd w x p) (hb : Below B w w') (hx : x < B) : Rd w' x p := by
  obtain ⟨h0', ad, len, cap, h0, h1, h2, h3⟩ := h
  refine ⟨Nat.lt_of_lt_of_le h0' hb.size, ad, len, cap, ?_, ?_, ?_, ?_⟩
  · rw [hb.cell (p := ⟨x, 0, none⟩) hx]; exact h0
  · rw [hb.cell (p := ⟨x, 1, none⟩) hx]; exact h1
  · rw [hb.frozen (p := ⟨x, 1, none⟩) hx]; exact h2
  · rcases h3 with h3 | ⟨b, off, z, q1, q2, q3, q4, q5⟩
    · exact .inl h3
    · exact .inr ⟨b, off, z, q1, q2, q3, fun i hi => by rw [hb.cell (p := ⟨b, off + i, none⟩) (Nat.lt_trans q2 hx)]; exact q4 i hi, q5⟩
theorem grown_below {base : Nat} {u u' : World} {row : Option Nat} (g : u.grownBy u' row) (hr : ∀ k, row = some k → base ≤ k) (hb : base ≤ u.heap.size) : Below base u u' :=
  ⟨g.os, g.tape, g.output, g.size, fun k hk => g.block k (by omega) (fun e => by have := hr k e.symm; omega)⟩
theorem Kept.under {x : Nat} {w u u' : World} (h : Kept x w u) (hb : Below w.heap.size u u') : Kept x w u' :=
  ⟨hb.os.trans h.os, hb.tape.trans h.tape, hb.output.trans h.output, Nat.le_trans h.size hb.size, fun k hk hx => (hb.block k hk).trans (h.block k hk hx)⟩
theorem RdC.under {x B : Nat} {p : Int} {b : List Bool} {js : List Nat} {u u' : World} {i : Nat} (h : RdC x p b js u) (hi : i ∉ js) (hR : Below B u u') (hx : x < B) : RdC x p (b.set i true) js u' := by
  obtain ⟨q, h1, h2, h3⟩ := h
  exact ⟨q, h1, by rw [Cnt_other hi]; exact h2, h3.under hR hx⟩
/-- What another type holds stays, where a row grows. -/
theorem own_grown {u u' : World} {base : Nat} {e : TypeId} {size : Nat} {v : Value} {n : Nat} {xs : List Value} (h : u.ownsRow base e size v n xs) (g : u.grownBy u' v.ownBlock) {B : Nat} {cs : Array Value} {T : TypeId} {fr : Nat × Nat} (hB : u.heap[B]? = some (.cells cs T fr)) (hne : T ≠ e) : u'.heap[B]? = some (.cells cs T fr) := by
  refine (g.block B (own_lt hB) ?_).trans hB
  intro he
  rcases h.2 with ⟨rfl, _⟩ | ⟨b, cap, cur, rfl, _, hgg, _⟩
  · simp [Value.ownBlock] at he
  · simp [Value.ownBlock] at he
    subst he
    rw [hgg] at hB
    cases hB
    exact hne rfl
theorem ownsRow_grown {u u' : World} {base : Nat} {e : TypeId} {size : Nat} {v : Value} {n : Nat} {xs : List Value} (h : u.ownsRow base e size v n xs) (g : u.grownBy u' v.ownBlock) {base' : Nat} {e' : TypeId} {size' : Nat} {v' : Value} {n' : Nat} {xs' : List Value} (h' : u.ownsRow base' e' size' v' n' xs') (hne : e' ≠ e) : u'.ownsRow base' e' size' v' n' xs' := by
  refine ⟨h'.1, ?_⟩
  rcases h'.2 with hn | ⟨b, cap, cur, rfl, hbg, hgg, rest⟩
  · exact .inl hn
  · exact .inr ⟨b, cap, cur, rfl, hbg, own_grown h g hgg hne, rest⟩
theorem cell_one {u : World} {B : Nat} {y : Value} {T : TypeId} {fr : Nat × Nat} (h : u.heap[B]? = some (.cells #[y] T fr)) : ∀ j v, [y][j]? = some v → u.cell? ((⟨B, 0, none⟩ : Addr).add j) = some v := by
  intro j v hv
  cases j with
  | zero =>
    simp at hv
    subst hv
    rw [Addr.add_lit, cell_of_row u B _ _ _ _ h]
    rfl
  | succ j => simp at hv

theorem cnt_one {q qq : Int} {b : List Bool} {k : Nat} (h : qq ≤ q + Cnt b [k]) : qq ≤ q + 1 := by
  have := Cnt_le b [k]
  simp only [List.length_cons, List.length_nil] at this
  omega
theorem cell_news {u : World} {B : Nat} {cs : Array Value} {T : TypeId} {fr : Nat × Nat} (h : u.heap[B]? = some (.cells cs T fr)) : ∀ j v, cs.toList[j]? = some v → u.cell? ((⟨B, 0, none⟩ : Addr).add j) = some v := by
  intro j v hv
  rw [Addr.add_lit, cell_of_row u B _ _ _ _ h]
  simpa using hv

theorem own_ne {u : World} {A B : Nat} {c1 c2 : Array Value} {T1 T2 : TypeId} {f1 f2 : Nat × Nat} (h1 : u.heap[A]? = some (.cells c1 T1 f1)) (h2 : u.heap[B]? = some (.cells c2 T2 f2)) (hne : T1 ≠ T2) : A ≠ B := by
  rintro rfl
  rw [h1] at h2
  cases h2
  exact hne rfl
theorem own_at {u : World} {B : Nat} {cs : Array Value} {T : TypeId} (h : u.heap[B]? = some (.cells cs T (0, 0))) {o : Nat} (ho : o < cs.size) : ∃ v, u.cell? ⟨B, o, none⟩ = some v :=
  ⟨cs[o], by rw [(own_cells h).1]; simp [ho]⟩
/-- Five cells of a right, written. -/
def setR (u : World) (g o : Nat) (r : Rt) : World := ((((u.setCell ⟨g, o, none⟩ (.int .i64 r.t)).setCell ⟨g, o + 1, none⟩ (.int .i64 r.v)).setCell ⟨g, o + 2, none⟩ (.bool r.r)).setCell ⟨g, o + 3, none⟩ (.bool r.w)).setCell ⟨g, o + 4, none⟩ (.bool r.k)
theorem flat_len (rs : List Rt) : (rs.flatMap Rt.cells).length = rs.length * 5 := by
  induction rs with
  | nil => rfl
  | cons a rs ih => simp only [List.flatMap_cons, List.length_append, ih, Rt.cells, List.length_cons, List.length_nil]; omega
theorem flat_setR (rs : List Rt) (j : Nat) (r : Rt) :
    (((((rs.flatMap Rt.cells).set (j * 5) (.int .i64 r.t)).set (j * 5 + 1) (.int .i64 r.v)).set (j * 5 + 2) (.bool r.r)).set (j * 5 + 3) (.bool r.w)).set (j * 5 + 4) (.bool r.k) = (rs.set j r).flatMap Rt.cells := by
  induction rs generalizing j with
  | nil => simp
  | cons a rs ih =>
    cases j with
    | zero => simp [Rt.cells]
    | succ j =>
      have e0 : (j + 1) * 5 = j * 5 + 1 + 1 + 1 + 1 + 1 := by omega
      have e1 : (j + 1) * 5 + 1 = j * 5 + 1 + 1 + 1 + 1 + 1 + 1 := by omega
      have e2 : (j + 1) * 5 + 2 = j * 5 + 2 + 1 + 1 + 1 + 1 + 1 := by omega
      have e3 : (j + 1) * 5 + 3 = j * 5 + 3 + 1 + 1 + 1 + 1 + 1 := by omega
      have e4 : (j + 1) * 5 + 4 = j * 5 + 4 + 1 + 1 + 1 + 1 + 1 := by omega
      rw [e4, e3, e2, e1, e0]
      simp only [List.flatMap_cons, Rt.cells, List.cons_append, List.nil_append, List.set_cons_succ]
      rw [← ih j]
theorem own_setR {u : World} {g : Nat} {cur : Array Value} {T : TypeId} {fr : Nat × Nat} (h : u.heap[g]? = some (.cells cur T fr)) (o : Nat) (r : Rt) :
    (setR u g o r).heap[g]? = some (.cells (((((cur.setIfInBounds o (.int .i64 r.t)).setIfInBounds (o + 1) (.int .i64 r.v)).setIfInBounds (o + 2) (.bool r.r)).setIfInBounds (o + 3) (.bool r.w)).setIfInBounds (o + 4) (.bool r.k)) T fr) :=
  own_set (own_set (own_set (own_set (own_set h _ _) _ _) _ _) _ _) _ _
theorem own_setR_ne {u : World} {g C : Nat} {o : Obj} (h : u.heap[C]? = some o) (hne : g ≠ C) (k : Nat) (r : Rt) : (setR u g k r).heap[C]? = some o :=
  own_set_ne (own_set_ne (own_set_ne (own_set_ne (own_set_ne h (p := ⟨g, k, none⟩) hne _) (p := ⟨g, k + 1, none⟩) hne _) (p := ⟨g, k + 2, none⟩) hne _) (p := ⟨g, k + 3, none⟩) hne _) (p := ⟨g, k + 4, none⟩) hne _
theorem SlO.setR {u : World} {base : Nat} {v : Value} (h : SlO u base v) (g j : Nat) (r : Rt) : SlO (setR u g (j * 5) r) base v := by
  obtain ⟨rs, h1, h2, h3⟩ := h
  rcases h3 with hn | ⟨g', cap, cur, rfl, hbg, hgg, hn, hcap, hsz, htake⟩
  · exact ⟨rs, h1, h2, .inl hn⟩
  by_cases hg : g = g'
  · subst hg
    refine ⟨rs.set j r, by simpa using h1, ?_, .inr ⟨g, cap, _, by simp, hbg, own_setR hgg _ _, by simpa using hn, hcap, by simpa using hsz, ?_⟩⟩
    · rw [flat_len]
    · rw [← flat_setR, ← htake]
      simp only [Array.toList_setIfInBounds, List.length_set, List.take_set]
  · exact ⟨rs, h1, h2, .inr ⟨g', cap, cur, rfl, hbg, own_setR_ne hgg hg _ _, hn, hcap, hsz, htake⟩⟩
theorem ownsRow_setR {w : World} {base : Nat} {e : TypeId} {size : Nat} {v : Value} {n : Nat} {xs : List Value} (h : w.ownsRow base e size v n xs) {B : Nat} {cs : Array Value} {T : TypeId} {fr : Nat × Nat} (hT : w.heap[B]? = some (.cells cs T fr)) (hne : T ≠ e) (o : Nat) (r : Rt) :
    (setR w B o r).ownsRow base e size v n xs := by
  refine ⟨h.1, ?_⟩
  rcases h.2 with hn | ⟨g, cap, cur, rfl, hbg, hgg, rest⟩
  · exact .inl hn
  · refine .inr ⟨g, cap, cur, rfl, hbg, own_setR_ne hgg ?_ _ _, rest⟩
    rintro rfl
    rw [hgg] at hT
    cases hT
    exact hne rfl
theorem QuO.setR {u : World} {base m : Nat} {v : Value} (h : QuO u base v m) {B : Nat} {cs : Array Value} {fr : Nat × Nat} (hT : u.heap[B]? = some (.cells cs 38 fr)) (o : Nat) (r : Rt) : QuO (setR u B o r) base v m := by
  obtain ⟨rs, h1, h2⟩ := h; exact ⟨rs, h1, ownsRow_setR h2 hT (by decide) o r⟩
theorem Rd.setR {x : Nat} {p : Int} {u : World} (h : Rd u x p) {g : Nat} (hg : x < g) (o : Nat) (r : Rt) : Rd (setR u g o r) x p :=
  Rd.setCell (Rd.setCell (Rd.setCell (Rd.setCell (Rd.setCell h (a := ⟨g, o, none⟩) hg _) (a := ⟨g, o + 1, none⟩) hg _) (a := ⟨g, o + 2, none⟩) hg _) (a := ⟨g, o + 3, none⟩) hg _) (a := ⟨g, o + 4, none⟩) hg _
theorem Kept.setR {x : Nat} {a w : World} (h : Kept x w a) {g : Nat} (hg : w.heap.size ≤ g) (o : Nat) (r : Rt) : Kept x w (setR a g o r) :=
  ((((h.setCell_new (p := ⟨g, o, none⟩) hg _).setCell_new (p := ⟨g, o + 1, none⟩) hg _).setCell_new (p := ⟨g, o + 2, none⟩) hg _).setCell_new (p := ⟨g, o + 3, none⟩) hg _).setCell_new (p := ⟨g, o + 4, none⟩) hg _
/-- Where a row of rights is not empty it has a block. -/
theorem SlO.row {u : World} {base : Nat} {a : Option Addr} {n c : Nat} (h : SlO u base (.slice a n c)) (hn : 0 < n) : ∃ (g : Nat) (cs : Array Value), a = some ⟨g, 0, none⟩ ∧ base ≤ g ∧ u.heap[g]? = some (.cells cs 38 (0, 0)) ∧ n * 5 ≤ cs.size := by
  obtain ⟨rs, h1, h2, h3⟩ := h
  rcases h3 with ⟨h3, h4⟩ | ⟨g, cap, cur, h3, hbg, hgg, h5, hcap, hsz, htake⟩
  · cases h3; omega
  · cases h3
    exact ⟨g, cur, rfl, hbg, hgg, by omega⟩
theorem SlO.open {u : World} {base : Nat} {a : Option Addr} {n c : Nat} (h : SlO u base (.slice a n c)) : ∃ rs : List Rt, rs.length = n ∧ n ≤ 4 ∧ RowR u a rs := by
  obtain ⟨rs, h1, h2, h3⟩ := h
  rcases h3 with ⟨h3, h4⟩ | ⟨g, cap, cur, h3, hbg, hgg, h5, hcap, hsz, htake⟩
  · cases h3
    exact ⟨rs, h4, by omega, .inl (List.eq_nil_of_length_eq_zero h4)⟩
  · cases h3
    refine ⟨rs, rfl, h1, .inr ⟨g, 0, rfl, own_lt hgg, by omega, fun i x hx => ?_⟩⟩
    have hi : i < rs.length := (List.getElem?_eq_some_iff.1 hx).1
    have hc : ∀ k, k < 5 → ∀ v, x.cells[k]? = some v → u.cell? ⟨g, 0 + i * 5 + k, none⟩ = some v := by
      intro k hk v hv
      rw [(own_cells hgg).1]
      have e : cur.toList[0 + i * 5 + k]? = (cur.toList.take (rs.length * 5))[0 + i * 5 + k]? := by
        rw [List.getElem?_take, if_pos (by omega)]
      rw [← Array.getElem?_toList, e, htake]
      clear htake e hgg hsz h2 h5 h1
      induction rs generalizing i with
      | nil => simp at hi
      | cons a rs ih =>
        cases i with
        | zero =>
          simp at hx
          subst hx
          rw [List.flatMap_cons, List.getElem?_append_left (by simp [Rt.cells]; omega)]
          simpa using hv
        | succ i =>
          rw [List.flatMap_cons, List.getElem?_append_right (by simp [Rt.cells]; omega)]
          have e : 0 + (i + 1) * 5 + k - a.cells.length = 0 + i * 5 + k := by simp [Rt.cells]; omega
          rw [e]
          exact ih i (by simpa using hx) (by simpa using hi)
    exact ⟨hc 0 (by omega) _ rfl, hc 1 (by omega) _ rfl, hc 2 (by omega) _ rfl, hc 3 (by omega) _ rfl, hc 4 (by omega) _ rfl⟩
theorem QuO.open {u : World} {base m : Nat} {a : Option Addr} {n c : Nat} (h : QuO u base (.slice a n c) m) : ∃ zs : List Int, zs.length = n ∧ n ≤ m ∧ RowI u a zs := by
  obtain ⟨zs, h1, h2, h3⟩ := h
  rcases h3 with ⟨h3, h4⟩ | ⟨g, cap, cur, h3, hbg, hgg, h5, hcap, hsz, htake⟩
  · cases h3
    exact ⟨zs, h4, by omega, .inl (List.eq_nil_of_length_eq_zero h4)⟩
  · cases h3
    refine ⟨zs, rfl, h1, .inr ⟨g, 0, rfl, own_lt hgg, by unfold maxLen at hcap; omega, fun i x hx => ?_⟩⟩
    have hi : i < zs.length := (List.getElem?_eq_some_iff.1 hx).1
    rw [(own_cells hgg).1]
    have e : cur.toList[0 + i]? = (cur.toList.take (zs.length * 1))[0 + i]? := by
      rw [List.getElem?_take, if_pos (by omega)]
    rw [← Array.getElem?_toList, e, htake]
    simp [hx]
end Go.Proofs.YtcgmnpppdoadhaaDoor
