/- Opening a reader, and the drawn call. No condition but that the code is a row of bytes. -/
import Derived.Test.YtcgmnpppdoadhaaDoorDraw
namespace Go.Proofs.YtcgmnpppdoadhaaDoor
set_option maxRecDepth 100000
open Go.RowKit
set_option linter.unusedVariables false

/-- What a fresh reader leaves. -/
def Opened (w : World) (e : Ending) (w' : World) : Prop := ∃ x, w.heap.size ≤ x ∧ e = .returned (.pointer (some ⟨x, 0, none⟩)) ∧ Rd w' x 0 ∧ Below w.heap.size w w'

theorem opened_of {w : World} {a : Option Addr} {len cap T : Nat} (hb : Bytes w w.heap.size a len) :
    Opened w (.returned (.pointer (some ⟨w.heap.size, 0, none⟩))) (w.alloc (.cells #[.slice a len cap, .int .i64 0] T)) := by
  have hk : Kept w.heap.size w (w.alloc (.cells #[.slice a len cap, .int .i64 0] T)) := (Kept.refl _ w).alloc _
  refine ⟨_, Nat.le_refl _, rfl, ⟨by simp, a, len, cap, ?_, ?_, ?_, hb.kept (Nat.le_refl _) hk⟩, (Below.refl _ _).alloc (Nat.le_refl _) _⟩ <;> go_simp
theorem Kept.below' {x : Nat} {w w' : World} (h : Kept x w w') (hx : w.heap.size ≤ x) : Below w.heap.size w w' :=
  ⟨h.os, h.tape, h.output, h.size, fun k hk => h.block k hk (by omega)⟩

theorem l6Open_any (a : Option Addr) (len cap : Nat) (z : List Int) (w : World) (hr : IsRow .u8 w a len cap z) :
    Calls Tryd.prog 21 #[.slice a len cap] w (Opened w) := by
  rcases hr with ⟨rfl, rfl, rfl, rfl⟩ | ⟨⟨b, off, spot⟩, rfl, hl, hm, hz, hcell, hwz⟩
  · go_enter Tryd.func21, Tryd.ntmps21
    go_wp2
    go_ret
    exact opened_of (.inl rfl)
  · unfold maxLen at hm
    by_cases h0 : len = 0
    · subst h0
      go_enter Tryd.func21, Tryd.ntmps21
      go_wp2
      go_ret
      exact opened_of (.inl rfl)
    have hc0 := hcell 0 (by omega)
    obtain rfl : spot = none := by simpa [Addr.add] using World.cell?_spot hc0
    have hbw : b < w.heap.size := by
      apply Classical.byContradiction
      intro hb
      rw [World.cell?] at hc0
      simp [Addr.add, show w.heap[b]? = none from by simp; omega] at hc0
    have hb : ∀ n : Nat, n ≤ 2000 → n ≤ len → Bytes w w.heap.size (some ⟨b, off, none⟩) n := by
      intro n hn hnl
      refine .inr ⟨b, off, fun i => if i < z.length then z.getD i 0 else 0, rfl, hbw, hn, fun i hi => ?_, fun i => ?_⟩
      · have h := hcell i (by omega)
        have e : (⟨b, off, none⟩ : Addr).add i = ⟨b, off + i, none⟩ := by unfold Addr.add; split <;> simp_all
        rw [e] at h
        have hiz : i < z.length := by omega
        simp only [hiz, if_true]
        exact h
      · by_cases hi : i < z.length
        · have := hwz (z.getD i 0) (by simp [List.getElem?_eq_getElem hi])
          simp only [hi, if_true]
          simpa [Lit.wf, IntKind.min, IntKind.max, IntKind.bits, IntKind.signed] using this
        · simp [hi]
    have H := hid hb
    clear hb hc0 hcell hwz
    by_cases hg : 2000 < len
    · go_enter Tryd.func21, Tryd.ntmps21
      go_wp2
      go_ret
      exact opened_of (H.out _ (by omega) (by omega))
    · go_enter Tryd.func21, Tryd.ntmps21
      go_wp2
      go_ret
      exact opened_of (H.out _ (by omega) (by omega))
/-- The drawn call: five numbers. -/
def DrawnCall (w : World) (e : Ending) (w' : World) : Prop := ∃ k r a b n : Int, e = .returned (.agg #[.int .i64 k, .int .i64 r, .int .i64 a, .int .i64 b, .int .i64 n]) ∧ Below w.heap.size w w'
end Go.Proofs.YtcgmnpppdoadhaaDoor
