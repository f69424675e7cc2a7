/- Contracts of the exact laws' helpers on tables: a table copied, compared with a copy, measured; and how a table that came in is opened. No condition but where it lies and that it is no longer than the laws ask. -/
import Derived.Test.YtcgmnpppdoadhaaDoorTo3
import Derived.Test.YtcgmnpppdoadhaaDoorExTh
import Derived.Test.YtcgmnpppdoadhaaDoorOpen
namespace Go.Proofs.YtcgmnpppdoadhaaDoor
set_option maxRecDepth 100000
open Go.RowKit Go.Deep
set_option linter.unusedVariables false
set_option linter.unusedSimpArgs false

/-- The eight cells of a thing in a row's own cells; its two rows lie behind block N. -/
def In8 (u : World) (N : Nat) (cs : Array Value) (o : Nat) (t : Th) : Prop :=
  ∃ B C : Nat, cs[o]? = some (.int .i64 t.kind) ∧ cs[o + 1]? = some (.int .i64 t.sec) ∧ cs[o + 2]? = some (.int .i64 t.vou) ∧ cs[o + 3]? = some (.int .i64 t.vers) ∧ cs[o + 4]? = some (.int .i64 t.num) ∧ cs[o + 5]? = some (.slice (some ⟨B, 0, none⟩) t.slots.length t.slots.length) ∧ cs[o + 6]? = some (.slice (some ⟨C, 0, none⟩) t.queue.length t.queue.length) ∧ cs[o + 7]? = some (.int .i64 t.tg) ∧ N < B ∧ N < C ∧ RowR u (some ⟨B, 0, none⟩) t.slots ∧ RowI u (some ⟨C, 0, none⟩) t.queue
def set8 (cs : Array Value) (o : Nat) (v0 v1 v2 v3 v4 v5 v6 v7 : Value) : Array Value :=
  ((((((((cs.setIfInBounds (o) v0).setIfInBounds (o + 1) v1).setIfInBounds (o + 2) v2).setIfInBounds (o + 3) v3).setIfInBounds (o + 4) v4).setIfInBounds (o + 5) v5).setIfInBounds (o + 6) v6).setIfInBounds (o + 7) v7)
theorem set8_size (cs : Array Value) (o : Nat) (v0 v1 v2 v3 v4 v5 v6 v7 : Value) : (set8 cs o v0 v1 v2 v3 v4 v5 v6 v7).size = cs.size := by simp [set8]
theorem set8_other {cs : Array Value} {o : Nat} (v0 v1 v2 v3 v4 v5 v6 v7 : Value) {q : Nat} (h : q < o ∨ o + 8 ≤ q) : (set8 cs o v0 v1 v2 v3 v4 v5 v6 v7)[q]? = cs[q]? := by
  unfold set8
  simp only [Array.getElem?_setIfInBounds, Array.size_setIfInBounds]
  repeat rw [if_neg (by omega)]
theorem set8_self {cs : Array Value} {o : Nat} (v0 v1 v2 v3 v4 v5 v6 v7 : Value) (h : o + 8 ≤ cs.size) :
    (set8 cs o v0 v1 v2 v3 v4 v5 v6 v7)[o]? = some v0 ∧ (set8 cs o v0 v1 v2 v3 v4 v5 v6 v7)[o + 1]? = some v1 ∧ (set8 cs o v0 v1 v2 v3 v4 v5 v6 v7)[o + 2]? = some v2 ∧ (set8 cs o v0 v1 v2 v3 v4 v5 v6 v7)[o + 3]? = some v3 ∧ (set8 cs o v0 v1 v2 v3 v4 v5 v6 v7)[o + 4]? = some v4 ∧ (set8 cs o v0 v1 v2 v3 v4 v5 v6 v7)[o + 5]? = some v5 ∧ (set8 cs o v0 v1 v2 v3 v4 v5 v6 v7)[o + 6]? = some v6 ∧ (set8 cs o v0 v1 v2 v3 v4 v5 v6 v7)[o + 7]? = some v7 := by
  unfold set8
  refine ⟨?_, ?_, ?_, ?_, ?_, ?_, ?_, ?_⟩ <;> simp [Array.getElem?_setIfInBounds] <;> omega
theorem In8.of {u u' : World} {N : Nat} {cs cs' : Array Value} {o : Nat} {t : Th} (h : In8 u N cs o t) (hc : ∀ q, o ≤ q → q < o + 8 → cs'[q]? = cs[q]?) (hR : ∀ B rs, N < B → RowR u (some ⟨B, 0, none⟩) rs → RowR u' (some ⟨B, 0, none⟩) rs) (hI : ∀ B zs, N < B → RowI u (some ⟨B, 0, none⟩) zs → RowI u' (some ⟨B, 0, none⟩) zs) : In8 u' N cs' o t := by
  obtain ⟨B, C, h0, h1, h2, h3, h4, h5, h6, h7, hB, hC, hr, hz⟩ := h
  exact ⟨B, C, (hc _ (by omega) (by omega)).trans h0, (hc _ (by omega) (by omega)).trans h1, (hc _ (by omega) (by omega)).trans h2, (hc _ (by omega) (by omega)).trans h3, (hc _ (by omega) (by omega)).trans h4, (hc _ (by omega) (by omega)).trans h5, (hc _ (by omega) (by omega)).trans h6, (hc _ (by omega) (by omega)).trans h7, hB, hC, hR B _ hB hr, hI C _ hC hz⟩
theorem bytesOk (n : Nat) (h : n ≤ 1048576) : 96 * n ≤ 281474976710656 := by omega
theorem infoTh : (Tryd.prog.info? 36).map (fun i => (i.zero, i.size, i.bytes)) = some (some (.agg #[.int .i64 0, .int .i64 0, .int .i64 0, .int .i64 0, .int .i64 0, .slice none 0 0, .slice none 0 0, .int .i64 0]), 8, 96) := by kernel_rfl
set_option maxHeartbeats 8000000 in
theorem toThingS_any (a : Option Addr) (cap : Nat) (ts : List Th) (w : World) (hT : RowT w a ts) (hlen : ts.length ≤ 1048576) (hin : ∀ t ∈ ts, t.slots.length ≤ 1048576 ∧ t.queue.length ≤ 1048576) :
    Calls Tryd.prog 19 #[.slice a ts.length cap] w fun e w' => ∃ B, e = .returned (.slice (some ⟨B, 0, none⟩) ts.length ts.length) ∧ w.heap.size ≤ B ∧ RowT w' (some ⟨B, 0, none⟩) ts ∧ Below w.heap.size w w' := by
  have tt : Below w.heap.size w w := Below.refl _ _
  obtain ⟨i0, hi, hz0, hz1, hz2⟩ := info_parts infoTh
  obtain ⟨n, hn⟩ : ∃ n, n = ts.length := ⟨_, rfl⟩
  have hmk : ∀ u : World, (Instr.makeSlice 23 (.int .i64 (n : Int)) (.int .i64 (n : Int))).run Tryd.prog u = .ok (.slice (some ⟨u.heap.size, 0, none⟩) n n) (u.alloc (.cells (madeCells #[.int .i64 0, .int .i64 0, .int .i64 0, .int .i64 0, .int .i64 0, .slice none 0 0, .slice none 0 0, .int .i64 0] (n * 8)) 36)) := fun u => by
    have h := run_make (P := Tryd.prog) u 23 36 i0 _ Tryd.underlying23 hi hz0 .i64 .i64 (n : Int) (n : Int) (by omega) (by omega) (by rw [hz2]; have := bytesOk n (by omega); omega) (by omega)
    rw [hz1] at h
    simpa [Value.cells] using h
  have HT := hid hT
  have HN := hid hn
  have HI := hid hin
  rw [← hn]
  rw [← hn] at hlen
  clear hn hT hi hz0 hz1 hz2 hin
  go_enter Tryd.func19, Tryd.ntmps19
  go_wp2_with fail
  go_loopw [4] (fun i wr => ∃ k : Nat, i = .int .i64 k ∧ k ≤ n ∧ Below w.heap.size w wr ∧ ∃ cs : Array Value, wr.heap[w.heap.size]? = some (.cells cs 36 (0, 0)) ∧ cs.size = n * 8 ∧ ∀ j t, j < k → ts[j]? = some t → In8 wr w.heap.size cs (j * 8) t)
    (fun i _ => n - (intOf i).toNat)
  case atStart => exact ⟨0, rfl, Nat.zero_le _, (by (have zt := tt.size); (repeat (first | with_reducible exact tt | (with_reducible refine Below.setCell ?_ ?_ _) | (with_reducible refine Below.alloc ?_ ?_ _) | with_reducible refine Below.drew ?_)); (all_goals (first | omega | (simp <;> omega)))), _, own_new _ _, size_madeCells _ _, fun j x hj => absurd hj (Nat.not_lt_zero _)⟩
  case round =>
    clear tt
    obtain ⟨k, rfl, hk, tt, cs, hO, hsz, hall⟩ := hrel
    have HS := hid hsz
    have HA := hid hall
    clear hall hsz
    by_cases hkn : k < n
    · obtain ⟨b, off, t, rfl, hx, hlt, hc⟩ := HT.out.at (k := k) (by rw [← HN.out]; exact hkn)
      obtain ⟨sa, sc, qa, qc, c0, c1, c2, c3, c4, c5, c6, c7, hRw, hQw⟩ := hc
      replace c0 := (tt.cell (p := ⟨b, _, none⟩) hlt).trans c0
      replace c1 := (tt.cell (p := ⟨b, _, none⟩) hlt).trans c1
      replace c2 := (tt.cell (p := ⟨b, _, none⟩) hlt).trans c2
      replace c3 := (tt.cell (p := ⟨b, _, none⟩) hlt).trans c3
      replace c4 := (tt.cell (p := ⟨b, _, none⟩) hlt).trans c4
      replace c5 := (tt.cell (p := ⟨b, _, none⟩) hlt).trans c5
      replace c6 := (tt.cell (p := ⟨b, _, none⟩) hlt).trans c6
      replace c7 := (tt.cell (p := ⟨b, _, none⟩) hlt).trans c7
      have HX := hid hx
      have hmem := HI.out t (List.mem_of_getElem? hx)
      have CT := hid (toThing_any t.kind t.sec t.vou t.vers t.num t.tg sa qa t.slots t.queue sc qc wr (hRw.below tt) (hQw.below tt) hmem.1 hmem.2)
      clear hRw hQw hx hmem
      go_wp2_with fail
      refine (CT.out).mono ?_
      rintro e w1 ⟨B, C, rfl, hB, hC, hR, hQ, hb⟩
      have hOl := own_lt hO
      have hb0 := hid hb
      replace hO := own_below hb hO
      replace tt := tt.trans (hb.mono tt.size)
      clear hb c0 c1 c2 c3 c4 c5 c6 c7 CT
      have hBX : w.heap.size < B := by omega
      have hCX : w.heap.size < C := by omega
      obtain ⟨v0, hv0⟩ := own_any hO (o := k * 8) (by rw [HS.out]; omega)
      obtain ⟨v1, hv1⟩ := own_any hO (o := k * 8 + 1) (by rw [HS.out]; omega)
      obtain ⟨v2, hv2⟩ := own_any hO (o := k * 8 + 2) (by rw [HS.out]; omega)
      obtain ⟨v3, hv3⟩ := own_any hO (o := k * 8 + 3) (by rw [HS.out]; omega)
      obtain ⟨v4, hv4⟩ := own_any hO (o := k * 8 + 4) (by rw [HS.out]; omega)
      obtain ⟨v5, hv5⟩ := own_any hO (o := k * 8 + 5) (by rw [HS.out]; omega)
      obtain ⟨v6, hv6⟩ := own_any hO (o := k * 8 + 6) (by rw [HS.out]; omega)
      obtain ⟨v7, hv7⟩ := own_any hO (o := k * 8 + 7) (by rw [HS.out]; omega)
      have hf := (own_cells hO).2
      have HO := hid (own_set (own_set (own_set (own_set (own_set (own_set (own_set (own_set hO (k * 8) (.int .i64 t.kind)) (k * 8 + 1) (.int .i64 t.sec)) (k * 8 + 2) (.int .i64 t.vou)) (k * 8 + 3) (.int .i64 t.vers)) (k * 8 + 4) (.int .i64 t.num)) (k * 8 + 5) (.slice (some ⟨B, 0, none⟩) t.slots.length t.slots.length)) (k * 8 + 6) (.slice (some ⟨C, 0, none⟩) t.queue.length t.queue.length)) (k * 8 + 7) (.int .i64 t.tg))
      have HR := hid (RowR.setCell_ne (RowR.setCell_ne (RowR.setCell_ne (RowR.setCell_ne (RowR.setCell_ne (RowR.setCell_ne (RowR.setCell_ne (RowR.setCell_ne hR (p := ⟨w.heap.size, k * 8, none⟩) (show w.heap.size ≠ B by omega) (.int .i64 t.kind)) (p := ⟨w.heap.size, k * 8 + 1, none⟩) (show w.heap.size ≠ B by omega) (.int .i64 t.sec)) (p := ⟨w.heap.size, k * 8 + 2, none⟩) (show w.heap.size ≠ B by omega) (.int .i64 t.vou)) (p := ⟨w.heap.size, k * 8 + 3, none⟩) (show w.heap.size ≠ B by omega) (.int .i64 t.vers)) (p := ⟨w.heap.size, k * 8 + 4, none⟩) (show w.heap.size ≠ B by omega) (.int .i64 t.num)) (p := ⟨w.heap.size, k * 8 + 5, none⟩) (show w.heap.size ≠ B by omega) (.slice (some ⟨B, 0, none⟩) t.slots.length t.slots.length)) (p := ⟨w.heap.size, k * 8 + 6, none⟩) (show w.heap.size ≠ B by omega) (.slice (some ⟨C, 0, none⟩) t.queue.length t.queue.length)) (p := ⟨w.heap.size, k * 8 + 7, none⟩) (show w.heap.size ≠ B by omega) (.int .i64 t.tg))
      have HQ := hid (RowI.setCell_ne (RowI.setCell_ne (RowI.setCell_ne (RowI.setCell_ne (RowI.setCell_ne (RowI.setCell_ne (RowI.setCell_ne (RowI.setCell_ne hQ (p := ⟨w.heap.size, k * 8, none⟩) (show w.heap.size ≠ C by omega) (.int .i64 t.kind)) (p := ⟨w.heap.size, k * 8 + 1, none⟩) (show w.heap.size ≠ C by omega) (.int .i64 t.sec)) (p := ⟨w.heap.size, k * 8 + 2, none⟩) (show w.heap.size ≠ C by omega) (.int .i64 t.vou)) (p := ⟨w.heap.size, k * 8 + 3, none⟩) (show w.heap.size ≠ C by omega) (.int .i64 t.vers)) (p := ⟨w.heap.size, k * 8 + 4, none⟩) (show w.heap.size ≠ C by omega) (.int .i64 t.num)) (p := ⟨w.heap.size, k * 8 + 5, none⟩) (show w.heap.size ≠ C by omega) (.slice (some ⟨B, 0, none⟩) t.slots.length t.slots.length)) (p := ⟨w.heap.size, k * 8 + 6, none⟩) (show w.heap.size ≠ C by omega) (.slice (some ⟨C, 0, none⟩) t.queue.length t.queue.length)) (p := ⟨w.heap.size, k * 8 + 7, none⟩) (show w.heap.size ≠ C by omega) (.int .i64 t.tg))
      clear hO hR hQ
      go_wp2_with fail
      go_roundw
      case rel =>
        refine ⟨k + 1, by go_num, by omega, (by (have zt := tt.size); (repeat (first | with_reducible exact tt | (with_reducible refine Below.setCell ?_ ?_ _) | (with_reducible refine Below.alloc ?_ ?_ _) | with_reducible refine Below.drew ?_)); (all_goals (first | omega | (simp <;> omega)))), set8 cs (k * 8) (.int .i64 t.kind) (.int .i64 t.sec) (.int .i64 t.vou) (.int .i64 t.vers) (.int .i64 t.num) (.slice (some ⟨B, 0, none⟩) t.slots.length t.slots.length) (.slice (some ⟨C, 0, none⟩) t.queue.length t.queue.length) (.int .i64 t.tg), HO.out, (set8_size _ _ _ _ _ _ _ _ _ _).trans HS.out, fun j y hj hy => ?_⟩
        have hsR : ∀ (D : Nat) (rs : List Rt) (u : World) (p : Addr) (v : Value), w.heap.size < D → p.block = w.heap.size → RowR u (some ⟨D, 0, none⟩) rs → RowR (u.setCell p v) (some ⟨D, 0, none⟩) rs := fun D rs u p v hD hp h => h.setCell_ne (by omega) v
        have hsI : ∀ (D : Nat) (zs : List Int) (u : World) (p : Addr) (v : Value), w.heap.size < D → p.block = w.heap.size → RowI u (some ⟨D, 0, none⟩) zs → RowI (u.setCell p v) (some ⟨D, 0, none⟩) zs := fun D zs u p v hD hp h => h.setCell_ne (by omega) v
        rcases Nat.lt_succ_iff_lt_or_eq.1 hj with hj | rfl
        · refine (HA.out j y hj hy).of (fun q h1 h2 => set8_other _ _ _ _ _ _ _ _ (by omega)) (fun D rs hD h => ?_) (fun D zs hD h => ?_)
          · have h := h.below hb0.out
            (iterate 8 (refine hsR _ _ _ _ _ hD rfl ?_)); exact h
          · have h := h.below hb0.out
            (iterate 8 (refine hsI _ _ _ _ _ hD rfl ?_)); exact h
        · rw [HX.out] at hy
          cases hy
          obtain ⟨s0, s1, s2, s3, s4, s5, s6, s7⟩ := set8_self (cs := cs) (o := j * 8) (.int .i64 t.kind) (.int .i64 t.sec) (.int .i64 t.vou) (.int .i64 t.vers) (.int .i64 t.num) (.slice (some ⟨B, 0, none⟩) t.slots.length t.slots.length) (.slice (some ⟨C, 0, none⟩) t.queue.length t.queue.length) (.int .i64 t.tg) (by rw [HS.out]; omega)
          exact ⟨B, C, s0, s1, s2, s3, s4, s5, s6, s7, hBX, hCX, HR.out, HQ.out⟩
      case measure => simp [intOf]; omega
    · obtain rfl : k = n := by omega
      go_wp2_with fail
      go_ret
      refine ⟨_, rfl, Nat.le_refl _, ?_, tt⟩
      cases hts : ts with
      | nil => exact .inl rfl
      | cons r0 rs0 =>
        rw [← hts]
        refine .inr ⟨_, 0, rfl, own_lt hO, by have := HN.out; omega, fun i t ht => ?_⟩
        have hi : i < k := by
          have := (List.getElem?_eq_some_iff.1 ht).1
          have := HN.out
          omega
        obtain ⟨B, C, e0, e1, e2, e3, e4, e5, e6, e7, _, _, hr, hq⟩ := HA.out i t hi ht
        have oc := (own_cells hO).1
        rw [Nat.zero_add]
        exact ⟨_, _, _, _, (oc _).trans e0, (oc _).trans e1, (oc _).trans e2, (oc _).trans e3, (oc _).trans e4, (oc _).trans e5, (oc _).trans e6, (oc _).trans e7, hr, hq⟩
set_option maxHeartbeats 4000000 in
theorem szThingS_any (a : Option Addr) (cap : Nat) (ts : List Th) (w : World) (hT : RowT w a ts) :
    Calls Tryd.prog 18 #[.slice a ts.length cap, .int .i64 1048576] w fun e w' => ∃ r : Int, e = .returned (.int .i64 r) ∧ (r = -1 ∨ (0 ≤ r ∧ ts.length ≤ 1048576 ∧ ∀ t ∈ ts, t.slots.length ≤ 1048576 ∧ t.queue.length ≤ 1048576)) ∧ Below w.heap.size w w' := by
  have tt : Below w.heap.size w w := Below.refl _ _
  have hml := hT.len
  obtain ⟨n, hn⟩ : ∃ n, n = ts.length := ⟨_, rfl⟩
  have HT := hid hT
  have HN := hid hn
  rw [← hn] at hml ⊢
  clear hn hT
  by_cases h0 : (1048576 : Int) - n < 0
  · go_enter Tryd.func18, Tryd.ntmps18
    go_wp2_with fail
    go_ret
    exact ⟨_, rfl, .inl rfl, tt⟩
  go_enter Tryd.func18, Tryd.ntmps18
  go_wp2_with fail
  go_loopw [1, 5] (fun l i wr => ∃ k left : Nat, l = .int .i64 left ∧ i = .int .i64 k ∧ k ≤ n ∧ left ≤ 1048576 ∧ (∀ j t, j < k → ts[j]? = some t → t.slots.length ≤ 1048576 ∧ t.queue.length ≤ 1048576) ∧ Below w.heap.size w wr)
    (fun _ i _ => n - (intOf i).toNat)
  case atStart => exact ⟨0, 1048576 - n, by go_num, rfl, Nat.zero_le _, by omega, fun j x hj => absurd hj (Nat.not_lt_zero _), (by (have zt := tt.size); (repeat (first | with_reducible exact tt | (with_reducible refine Below.setCell ?_ ?_ _) | (with_reducible refine Below.alloc ?_ ?_ _) | with_reducible refine Below.drew ?_)); (all_goals (first | omega | (simp <;> omega))))⟩
  case round =>
    clear tt
    obtain ⟨k, left, rfl, rfl, hk, hleft, hall, tt⟩ := hrel
    have HA := hid hall
    clear hall
    by_cases hkn : k < n
    · obtain ⟨b, off, t, rfl, hx, hlt, hc⟩ := HT.out.at (k := k) (by rw [← HN.out]; exact hkn)
      obtain ⟨sa, sc, qa, qc, c0, c1, c2, c3, c4, c5, c6, c7, hRw, hQw⟩ := hc
      replace c0 := (tt.cell (p := ⟨b, _, none⟩) hlt).trans c0
      replace c1 := (tt.cell (p := ⟨b, _, none⟩) hlt).trans c1
      replace c2 := (tt.cell (p := ⟨b, _, none⟩) hlt).trans c2
      replace c3 := (tt.cell (p := ⟨b, _, none⟩) hlt).trans c3
      replace c4 := (tt.cell (p := ⟨b, _, none⟩) hlt).trans c4
      replace c5 := (tt.cell (p := ⟨b, _, none⟩) hlt).trans c5
      replace c6 := (tt.cell (p := ⟨b, _, none⟩) hlt).trans c6
      replace c7 := (tt.cell (p := ⟨b, _, none⟩) hlt).trans c7
      have HX := hid hx
      have CZ := szThing_any t.kind t.sec t.vou t.vers t.num t.tg sa qa t.slots.length sc t.queue.length qc left hRw.len hQw.len (by omega) (by omega) wr
      clear hRw hQw hx
      rcases szOne_cases left t.slots.length t.queue.length with e1 | ⟨s, e1, hsl, hm, hq⟩
      · rw [e1] at CZ
        have CZ' := hid CZ
        clear CZ e1
        go_wp2_with fail
        refine (CZ'.out).mono ?_
        rintro e w1 ⟨rfl, hb⟩
        replace tt := tt.trans (hb.mono tt.size)
        clear hb c0 c1 c2 c3 c4 c5 c6 c7
        go_wp2_with fail
        go_ret
        exact ⟨_, rfl, .inl rfl, tt⟩
      · rw [e1] at CZ
        have CZ' := hid CZ
        clear CZ e1
        go_wp2_with fail
        refine (CZ'.out).mono ?_
        rintro e w1 ⟨rfl, hb⟩
        replace tt := tt.trans (hb.mono tt.size)
        clear hb c0 c1 c2 c3 c4 c5 c6 c7
        go_wp2_with fail
        go_roundw
        case rel =>
          refine ⟨k + 1, s, rfl, by go_num, by omega, by omega, fun j y hj hy => ?_, tt⟩
          rcases Nat.lt_succ_iff_lt_or_eq.1 hj with hj | rfl
          · exact HA.out j y hj hy
          · rw [HX.out] at hy
            cases hy
            exact ⟨by omega, by omega⟩
        case measure => simp [intOf]; omega
    · obtain rfl : k = n := by omega
      go_wp2_with fail
      go_ret
      refine ⟨_, rfl, .inr ⟨by omega, by omega, fun t ht => ?_⟩, tt⟩
      obtain ⟨i, hi, rfl⟩ := List.getElem_of_mem ht
      exact HA.out i _ (by rw [HN.out]; exact hi) (by simp [hi])
set_option maxHeartbeats 4000000 in
theorem eqThingS_same (a a' : Option Addr) (cap cap' : Nat) (ts : List Th) (w : World) (hr : RowT w a ts) (hr' : RowT w a' ts) :
    Calls Tryd.prog 20 #[.slice a ts.length cap, .slice a' ts.length cap'] w fun e w' => e = .returned (.bool true) ∧ Below w.heap.size w w' := by
  have tt : Below w.heap.size w w := Below.refl _ _
  obtain ⟨n, hn⟩ : ∃ n, n = ts.length := ⟨_, rfl⟩
  have hml : n ≤ 9223372036854775807 := hn ▸ hr.len
  have HR := hid hr
  have HR' := hid hr'
  have HN := hid hn
  rw [← hn]
  clear hn hr hr'
  go_enter Tryd.func20, Tryd.ntmps20
  go_wp2_with fail
  go_loopw [5] (fun i wr => ∃ k : Nat, i = .int .i64 k ∧ k ≤ n ∧ Below w.heap.size w wr)
    (fun i _ => n - (intOf i).toNat)
  case atStart => exact ⟨0, rfl, Nat.zero_le _, (by (have zt := tt.size); (repeat (first | with_reducible exact tt | (with_reducible refine Below.setCell ?_ ?_ _) | (with_reducible refine Below.alloc ?_ ?_ _) | with_reducible refine Below.drew ?_)); (all_goals (first | omega | (simp <;> omega))))⟩
  case round =>
    clear tt
    obtain ⟨k, rfl, hk, tt⟩ := hrel
    by_cases hkn : k < n
    · obtain ⟨b, off, t, rfl, hx, hlt, hc⟩ := HR.out.at (k := k) (by rw [← HN.out]; exact hkn)
      obtain ⟨b', off', t', rfl, hx', hlt', hc'⟩ := HR'.out.at (k := k) (by rw [← HN.out]; exact hkn)
      obtain rfl : t = t' := by rw [hx] at hx'; exact Option.some.inj hx'
      obtain ⟨sa, sc, qa, qc, c0, c1, c2, c3, c4, c5, c6, c7, hRw, hQw⟩ := hc
      obtain ⟨sa', sc', qa', qc', d0, d1, d2, d3, d4, d5, d6, d7, hRw', hQw'⟩ := hc'
      replace c0 := (tt.cell (p := ⟨b, _, none⟩) hlt).trans c0
      replace d0 := (tt.cell (p := ⟨b', _, none⟩) hlt').trans d0
      replace c1 := (tt.cell (p := ⟨b, _, none⟩) hlt).trans c1
      replace d1 := (tt.cell (p := ⟨b', _, none⟩) hlt').trans d1
      replace c2 := (tt.cell (p := ⟨b, _, none⟩) hlt).trans c2
      replace d2 := (tt.cell (p := ⟨b', _, none⟩) hlt').trans d2
      replace c3 := (tt.cell (p := ⟨b, _, none⟩) hlt).trans c3
      replace d3 := (tt.cell (p := ⟨b', _, none⟩) hlt').trans d3
      replace c4 := (tt.cell (p := ⟨b, _, none⟩) hlt).trans c4
      replace d4 := (tt.cell (p := ⟨b', _, none⟩) hlt').trans d4
      replace c5 := (tt.cell (p := ⟨b, _, none⟩) hlt).trans c5
      replace d5 := (tt.cell (p := ⟨b', _, none⟩) hlt').trans d5
      replace c6 := (tt.cell (p := ⟨b, _, none⟩) hlt).trans c6
      replace d6 := (tt.cell (p := ⟨b', _, none⟩) hlt').trans d6
      replace c7 := (tt.cell (p := ⟨b, _, none⟩) hlt).trans c7
      replace d7 := (tt.cell (p := ⟨b', _, none⟩) hlt').trans d7
      have CE := hid (fun (u : World) (hu : Below w.heap.size w u) => eqThing_same t.kind t.sec t.vou t.vers t.num t.tg sa qa sa' qa' t.slots t.queue sc qc sc' qc' u (hRw.below hu) (hQw.below hu) (hRw'.below hu) (hQw'.below hu))
      have hs := tt.size
      have hl2 : b < wr.heap.size := by omega
      have hl2' : b' < wr.heap.size := by omega
      clear hx hx' hRw hQw hRw' hQw'
      go_wp2_with fail
      refine wp_region_quiet_below (by kernel_rfl) (by kernel_rfl) ?_
      repeat (first
        | (refine qskip rfl (fun K hK => ?_); go_simp; refine hK _ ?_; clear hK K)
        | (apply qval rfl; (case h => (intro u hu; obtain ⟨cc, ff⟩ := bcell hu; go_simp; exact rfl)); (intro K hK; go_simp; refine hK _ ?_; clear hK K))
        | (apply qcall rfl; (case h => (intro u hu; go_simp; exact ⟨rfl, rfl⟩)); (case hc => (intro u hu; with_reducible exact Calls.in_below hu (CE.out _ (tt.trans (hu.mono tt.size))))); (intro K hK; go_simp; refine hK _ ?_; clear hK K)))
      refine wpQuiet_nil ?_
      intro u hu
      replace tt := tt.trans (hu.mono tt.size)
      clear hu
      go_wp2_with fail
      go_roundw
      case rel => exact ⟨k + 1, by go_num, by omega, tt⟩
      case measure => simp [intOf]; omega
    · obtain rfl : k = n := by omega
      go_wp2_with fail
      go_ret
      exact ⟨rfl, tt⟩
theorem open_things {H : Type} {enc : TypeId × Value → H} {w : World} {base : Nat} {spare : Nat → Bool} {held : Bool} {r : Reach} {b0 : Nat} {v : Value} {d : DataW H} {p : List MemPlace}
    (hv : Value.okWide Tryd.prog w r b0 43 v) (h : DataW.Trod enc Tryd.prog w base spare held 43 v d p) : ∃ (a : Option Addr) (cap : Nat) (ts : List Th), v = .slice a ts.length cap ∧ RowT w a ts := by
  obtain ⟨a0, len0, cap0, rfl⟩ := WideShapes.okWide_slice Tryd.underlying43 hv
  obtain ⟨fuel, hf⟩ := h
  rcases open_slice Tryd.underlying43 hf with ⟨e, _⟩ | ⟨a, len, cap, m, n, D, Pl, e, hb, hl, hm, hmm, _, hi⟩
  · simp [Value.cells] at e
    obtain ⟨rfl, rfl, rfl⟩ := e
    exact ⟨none, 0, [], rfl, .inl rfl⟩
  · simp [Value.cells] at e
    obtain ⟨rfl, rfl, rfl⟩ := e
    have hlm : len0 ≤ m := by rw [hmm]; split <;> omega
    have cT : Tryd.prog.cellsOf 69 = 8 := by kernel_rfl
    rw [cT] at hi
    have hx : ∀ i, i < len0 → ∃ t : Th, ∃ (sa : Option Addr) (sc : Nat) (qa : Option Addr) (qc : Nat), w.cell? (a.add (i * 8)) = some (.int .i64 t.kind) ∧ w.cell? (a.add (i * 8 + 1)) = some (.int .i64 t.sec) ∧ w.cell? (a.add (i * 8 + 2)) = some (.int .i64 t.vou) ∧ w.cell? (a.add (i * 8 + 3)) = some (.int .i64 t.vers) ∧ w.cell? (a.add (i * 8 + 4)) = some (.int .i64 t.num) ∧ w.cell? (a.add (i * 8 + 5)) = some (.slice sa t.slots.length sc) ∧ w.cell? (a.add (i * 8 + 6)) = some (.slice qa t.queue.length qc) ∧ w.cell? (a.add (i * 8 + 7)) = some (.int .i64 t.tg) ∧ RowR w sa t.slots ∧ RowI w qa t.queue := fun i hil => by
      obtain ⟨cs', hc, ht⟩ := hi i (by omega)
      obtain ⟨_, hcl, hat⟩ := World.cells?_some hc
      obtain ⟨t, sa, qa, sc, qc, rfl, hr, hq⟩ := open_th ht
      refine ⟨t, sa, sc, qa, qc, ?_, ?_, ?_, ?_, ?_, ?_, ?_, ?_, hr, hq⟩
      · have := hat 0 (by omega); simpa [add_add] using this
      · have := hat 1 (by omega); simpa [add_add] using this
      · have := hat 2 (by omega); simpa [add_add] using this
      · have := hat 3 (by omega); simpa [add_add] using this
      · have := hat 4 (by omega); simpa [add_add] using this
      · have := hat 5 (by omega); simpa [add_add] using this
      · have := hat 6 (by omega); simpa [add_add] using this
      · have := hat 7 (by omega); simpa [add_add] using this
    obtain ⟨f, hf⟩ := choose_lt hx
    refine ⟨some a, cap0, (List.range len0).map f, by simp, ?_⟩
    rcases Nat.eq_zero_or_pos len0 with rfl | hpos
    · exact .inl rfl
    · obtain ⟨_, _, _, _, h0, _⟩ := hf 0 hpos
      rw [show a.add (0 * 8) = a from rfl] at h0
      have hsp : a.spot = none := World.cell?_spot h0
      obtain ⟨b, off, sp⟩ := a
      obtain rfl : sp = none := hsp
      refine .inr ⟨b, off, rfl, cell_lt h0, by unfold maxLen at hm; simp; omega, fun i t ht => ?_⟩
      have hil : i < len0 := by
        have := (List.getElem?_eq_some_iff.1 ht).1
        simpa using this
      obtain rfl : f i = t := by simpa [hil] using ht
      obtain ⟨sa, sc, qa, qc, g0, g1, g2, g3, g4, g5, g6, g7, hr, hq⟩ := hf i hil
      rw [add_none rfl] at g0 g1 g2 g3 g4 g5 g6 g7
      exact ⟨sa, sc, qa, qc, g0, g1, g2, g3, g4, g5, g6, g7, hr, hq⟩
end Go.Proofs.YtcgmnpppdoadhaaDoor
