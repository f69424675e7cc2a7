/- The reader of a code from which the reference draws: opening it, and one number out of it. No condition but that the place stays small. -/
import Derived.Test.YtcgmnpppdoadhaaDoorOk
import Derived.Deep.QuietTactic
import Derived.BigQuiet
import Derived.IntWalk
namespace Go.Proofs.YtcgmnpppdoadhaaDoor
set_option maxRecDepth 100000
open Go.RowKit Go.BigFrame
set_option linter.unusedVariables false

/-- What a reader reads: a row of at most 2000 bytes, in a block below x; nothing, if it is nil. -/
def Bytes (w : World) (x : Nat) (a : Option Addr) (len : Nat) : Prop :=
  len = 0 ∨ ∃ (b off : Nat) (z : Nat → Int), a = some ⟨b, off, none⟩ ∧ b < x ∧ len ≤ 2000 ∧ (∀ i, i < len → w.cell? ⟨b, off + i, none⟩ = some (.int .u8 (z i))) ∧ ∀ i, 0 ≤ z i ∧ z i ≤ 255

/-- A reader in block x, at place p. -/
def Rd (w : World) (x : Nat) (p : Int) : Prop :=
  x < w.heap.size ∧ ∃ (a : Option Addr) (len cap : Nat), w.cell? ⟨x, 0, none⟩ = some (.slice a len cap) ∧ w.cell? ⟨x, 1, none⟩ = some (.int .i64 p) ∧ w.frozen? ⟨x, 1, none⟩ = false ∧ Bytes w x a len

/-- All blocks but x are as they were; new ones may have come. -/
structure Kept (x : Nat) (w w' : World) : Prop where
  os : w'.os = w.os
  tape : w'.tape = w.tape
  output : w'.output = w.output
  size : w.heap.size ≤ w'.heap.size
  block : ∀ k, k < w.heap.size → k ≠ x → w'.heap[k]? = w.heap[k]?

theorem Kept.refl (x : Nat) (w : World) : Kept x w w := ⟨rfl, rfl, rfl, Nat.le_refl _, fun _ _ _ => rfl⟩
theorem Kept.trans {x : Nat} {a b c : World} (h : Kept x a b) (k : Kept x b c) : Kept x a c :=
  ⟨k.os.trans h.os, k.tape.trans h.tape, k.output.trans h.output, Nat.le_trans h.size k.size, fun i hi hx => (k.block i (Nat.lt_of_lt_of_le hi h.size) hx).trans (h.block i hi hx)⟩
theorem Kept.of_below {x : Nat} {a b w : World} (h : Kept x w a) (k : Below a.heap.size a b) : Kept x w b :=
  h.trans ⟨k.os, k.tape, k.output, k.size, fun i hi _ => k.block i hi⟩
theorem Kept.below {x : Nat} {w w' : World} (h : Kept x w w') (hx : x ≤ w.heap.size) : Below x w w' :=
  ⟨h.os, h.tape, h.output, h.size, fun k hk => h.block k (by omega) (by omega)⟩
theorem Kept.alloc {x : Nat} {a w : World} (h : Kept x w a) (o : Obj) : Kept x w (a.alloc o) :=
  h.of_below ((Below.refl _ _).alloc (Nat.le_refl _) _)
theorem Kept.drew {x : Nat} {a w : World} (h : Kept x w a) : Kept x w a.drew :=
  h.trans ⟨rfl, rfl, rfl, Nat.le_refl _, fun _ _ _ => rfl⟩
theorem Kept.drewN {x : Nat} {a w : World} (h : Kept x w a) (n : Nat) : Kept x w (a.drewN n) :=
  h.trans ⟨rfl, rfl, rfl, Nat.le_refl _, fun _ _ _ => rfl⟩
theorem Kept.setCell_self {x : Nat} {a w : World} (h : Kept x w a) (o : Nat) (u : Value) : Kept x w (a.setCell ⟨x, o, none⟩ u) :=
  h.trans ⟨rfl, rfl, rfl, by simp [World.setCell], fun k _ hk => Below.heap_setCell _ _ _ _ hk⟩
theorem Kept.setCell_new {x : Nat} {a w : World} (h : Kept x w a) {p : Addr} (hp : w.heap.size ≤ p.block) (u : Value) : Kept x w (a.setCell p u) :=
  ⟨h.os, h.tape, h.output, by have := h.size; simpa [World.setCell] using this, fun k hk hx => by rw [Below.heap_setCell _ _ _ _ (by omega)]; exact h.block k hk hx⟩
theorem kcell {x : Nat} {W w1 : World} (hb : Kept x W w1) : (∀ b o, b < W.heap.size → ¬ b = x → w1.cell? ⟨b, o, none⟩ = W.cell? ⟨b, o, none⟩) ∧ (∀ b o, b < W.heap.size → ¬ b = x → w1.frozen? ⟨b, o, none⟩ = W.frozen? ⟨b, o, none⟩) :=
  ⟨fun b o h hx => World.cell?_of_block (w := W) (hb.block b h hx), fun b o h hx => World.frozen?_of_block (w := W) (hb.block b h hx)⟩

theorem Bytes.kept {x : Nat} {w w' : World} {a : Option Addr} {len : Nat} (h : Bytes w x a len) (hx : x ≤ w.heap.size) (k : Kept x w w') : Bytes w' x a len := by
  rcases h with h | ⟨b, off, z, h1, h2, h3, h4, h5⟩
  · exact .inl h
  · exact .inr ⟨b, off, z, h1, h2, h3, fun i hi => by rw [(kcell k).1 b _ (by omega) (by omega)]; exact h4 i hi, h5⟩

/-- A reader stays, where its own block has not been written. -/
theorem Rd.below {x : Nat} {p : Int} {w w' : World} (h : Rd w x p) (k : Below w.heap.size w w') : Rd w' x p := by
  obtain ⟨hx, a, len, cap, h0, h1, h2, h3⟩ := h
  refine ⟨Nat.lt_of_lt_of_le hx k.size, a, len, cap, ?_, ?_, ?_, h3.kept (Nat.le_of_lt hx) ((Kept.refl x w).of_below k)⟩
  · rw [(bcell k).1 _ _ hx]; exact h0
  · rw [(bcell k).1 _ _ hx]; exact h1
  · rw [(bcell k).2 _ _ hx]; exact h2

theorem xor_i64_nat (a b : Nat) (ha : a < 4611686018427387904) (hb : b < 4611686018427387904) : bits .xor .i64 (a : Int) (b : Int) = ((a ^^^ b : Nat) : Int) := by
  have hx : a ^^^ b < 2 ^ 62 := Nat.xor_lt_two_pow (by omega) (by omega)
  have h1 : (BitVec.ofInt 64 (a : Int)).toNat = a := by
    rw [BitVec.ofInt_natCast, BitVec.toNat_ofNat]; exact Nat.mod_eq_of_lt (by omega)
  have h2 : (BitVec.ofInt 64 (b : Int)).toNat = b := by
    rw [BitVec.ofInt_natCast, BitVec.toNat_ofNat]; exact Nat.mod_eq_of_lt (by omega)
  show IntKind.i64.wrap ((BitVec.ofInt 64 (a : Int) ^^^ BitVec.ofInt 64 (b : Int)).toNat : Int) = _
  rw [BitVec.toNat_xor, h1, h2]
  simp [IntKind.wrap, IntKind.bits, IntKind.signed]
  omega

theorem xor_i64_nonneg (X : Int) (h0 : 0 ≤ X) (h1 : X ≤ 100000000000) : 0 ≤ bits .xor .i64 X (X / 64) := by
  obtain ⟨x, rfl⟩ := Int.eq_ofNat_of_zero_le h0
  have e : ((x : Int) / 64) = ((x / 64 : Nat) : Int) := by omega
  rw [e, xor_i64_nat _ _ (by omega) (by omega)]
  omega

theorem Rd.alloc {x : Nat} {p : Int} {w : World} (h : Rd w x p) (o : Obj) : Rd (w.alloc o) x p := h.below ((Below.refl _ _).alloc (Nat.le_refl _) _)
theorem Rd.drew {x : Nat} {p : Int} {w : World} (h : Rd w x p) : Rd w.drew x p := h.below (Below.refl _ _).drew
theorem Rd.setCell {x : Nat} {p : Int} {w : World} (h : Rd w x p) {a : Addr} (ha : x < a.block) (u : Value) : Rd (w.setCell a u) x p := by
  obtain ⟨hx, ad, len, cap, h0, h1, h2, h3⟩ := h
  have hb : Below a.block w (w.setCell a u) := (Below.refl _ _).setCell (Nat.le_refl _) _
  refine ⟨Nat.lt_of_lt_of_le hx hb.size, ad, len, cap, ?_, ?_, ?_, ?_⟩
  · rw [hb.cell ha]; exact h0
  · rw [hb.cell ha]; exact h1
  · rw [hb.frozen ha]; exact h2
  · rcases h3 with h3 | ⟨b, off, z, q1, q2, q3, q4, q5⟩
    · exact .inl h3
    · exact .inr ⟨b, off, z, q1, q2, q3, fun i hi => by rw [hb.cell (p := ⟨b, off + i, none⟩) (Nat.lt_trans q2 ha)]; exact q4 i hi, q5⟩
theorem Rd.lt {x : Nat} {p : Int} {w : World} (h : Rd w x p) : x < w.heap.size := h.1

theorem pick_list (vs : List Value) (i : Nat) (Q : Int → Prop) (h : ∀ v ∈ vs, ∃ y, v = .int .i64 y ∧ Q y) (hi : i < vs.length) : ∃ y, vs[i] = .int .i64 y ∧ Q y := h _ (List.getElem_mem hi)

/-- What one number out of a reader leaves. -/
def Picked (x : Nat) (p n : Int) (w : World) (e : Ending) (w' : World) : Prop :=
  ∃ m : Int, e = .returned (.int .i64 m) ∧ 0 ≤ m ∧ (1 ≤ n → m < n) ∧ (n < 1 → m = 0) ∧ Rd w' x (p + 1) ∧ Kept x w w'

theorem picked_of {x : Nat} {p n m : Int} {w w' : World} {a : Option Addr} {len cap : Nat} (hx : x < w.heap.size) (h0 : w.cell? ⟨x, 0, none⟩ = some (.slice a len cap)) (h1 : ∃ v, w.cell? ⟨x, 1, none⟩ = some v)
    (h2 : w.frozen? ⟨x, 1, none⟩ = false) (h3 : Bytes w x a len) (hm : 0 ≤ m) (hmn : 1 ≤ n → m < n) (hn : n < 1 → m = 0)
    (hw : ∃ k, w' = (w.setCell ⟨x, 1, none⟩ (.int .i64 (p + 1))).drewN k) : Picked x p n w (.returned (.int .i64 m)) w' := by
  obtain ⟨k, rfl⟩ := hw
  have hk : Kept x w ((w.setCell ⟨x, 1, none⟩ (.int .i64 (p + 1))).drewN k) := ((Kept.refl x w).setCell_self 1 _).drewN k
  obtain ⟨v, hv⟩ := h1
  refine ⟨m, rfl, hm, hmn, hn, ⟨Nat.lt_of_lt_of_le hx hk.size, a, len, cap, ?_, ?_, ?_, h3.kept (Nat.le_of_lt hx) hk⟩, hk⟩
  · go_simp
  · go_simp
  · go_simp
set_option maxHeartbeats 1000000 in
theorem pick_any (x : Nat) (p n : Int) (w : World) (hr : Rd w x p) (hp0 : 0 ≤ p) (hp : p ≤ 100000000) :
    Calls Tryd.prog 31 #[.pointer (some ⟨x, 0, none⟩), .int .i64 n] w (Picked x p n w) := by
  obtain ⟨hx, a, len, cap, h0, h1, h2, h3⟩ := hr
  by_cases hn : n < 1
  · go_enter Tryd.func31, Tryd.ntmps31
    go_wp2
    go_ret
    exact picked_of hx h0 ⟨_, h1⟩ h2 h3 (by omega) (by omega) (by omega) ⟨0, rfl⟩
  · by_cases hl : len = 0
    · have hl' : ((len : Int) == 0) = true := by simp; omega
      go_enter Tryd.func31, Tryd.ntmps31
      go_wp2
      go_ret
      exact picked_of hx h0 ⟨_, h1⟩ h2 h3 (by omega) (by omega) (by omega) ⟨0, rfl⟩
    · rcases h3 with h3 | ⟨b, off, z, rfl, hb, hlen, hz, hz'⟩
      · exact absurd h3 hl
      have hl' : ((len : Int) == 0) = false := by simp; omega
      have h3 : Bytes w x (some ⟨b, off, none⟩) len := .inr ⟨b, off, z, rfl, hb, hlen, hz, hz'⟩
      have H3 := hid h3
      clear h3
      by_cases hk : p < len
      · obtain ⟨k, rfl⟩ := Int.eq_ofNat_of_zero_le hp0
        have hzk := hz k (by omega)
        have hzk1 := (hz' k).1
        have hzk2 := (hz' k).2
        clear hz hz'
        have hbx : ¬ b = x := by omega
        go_enter Tryd.func31, Tryd.ntmps31
        go_wp2
        go_ret
        exact picked_of hx h0 ⟨_, h1⟩ h2 H3.out (Int.emod_nonneg _ (by omega)) (fun _ => Int.emod_lt_of_pos _ (by omega)) (by omega) ⟨0, rfl⟩
      · obtain ⟨k, rfl⟩ := Int.eq_ofNat_of_zero_le hp0
        have hbx : ¬ b = x := by omega
        have hk' : (len : Int) ≤ k := by omega
        have hl0 : 0 < len := by omega
        have a1 : 0 ≤ (k : Int) % len := Int.emod_nonneg _ (by omega)
        have a2 : (k : Int) % len < len := Int.emod_lt_of_pos _ (by omega)
        have a3 : 0 ≤ ((k : Int) * 7 + 3) % len := Int.emod_nonneg _ (by omega)
        have a4 : ((k : Int) * 7 + 3) % len < len := Int.emod_lt_of_pos _ (by omega)
        have e1 := hz (k % len) (Nat.mod_lt _ hl0)
        have e2 := hz ((k * 7 + 3) % len) (Nat.mod_lt _ hl0)
        have e11 := (hz' (k % len)).1
        have e12 := (hz' (k % len)).2
        have e21 := (hz' ((k * 7 + 3) % len)).1
        have e22 := (hz' ((k * 7 + 3) % len)).2
        have d1 : 0 ≤ (k : Int) / len := Int.ediv_nonneg (by omega) (by omega)
        have d2 : (k : Int) / len ≤ k := Int.ediv_le_self _ (by omega)
        generalize z (k % len) = y1 at e1 e11 e12
        generalize z ((k * 7 + 3) % len) = y2 at e2 e21 e22
        clear hz hz'
        go_enter Tryd.func31, Tryd.ntmps31
        go_wp2
        go_quiet (fail)
        have x1 : 0 ≤ y1 * 131 + y2 * 1117 + (k : Int) * 29 + (k : Int) / len * 53 := by omega
        have x2 : y1 * 131 + y2 * 1117 + (k : Int) * 29 + (k : Int) / len * 53 ≤ 100000000000 := by omega
        generalize y1 * 131 + y2 * 1117 + (k : Int) * 29 + (k : Int) / len * 53 = X at x1 x2 ⊢
        clear a1 a2 a3 a4 e1 e2 e11 e12 e21 e22 d1 d2
        have x3 := xor_i64_nonneg X x1 x2
        go_wp2
        go_ret
        exact picked_of hx h0 ⟨_, h1⟩ h2 H3.out (Int.emod_nonneg _ (by omega)) (fun _ => Int.emod_lt_of_pos _ (by omega)) (by omega) ⟨_, rfl⟩
end Go.Proofs.YtcgmnpppdoadhaaDoor
