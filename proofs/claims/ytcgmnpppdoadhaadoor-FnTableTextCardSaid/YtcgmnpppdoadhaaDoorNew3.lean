/- Rows that a draw owns, and the contract of the reference's new thing in these words. No condition. -/
import Derived.Test.YtcgmnpppdoadhaaDoorNew2
import Derived.Laws.AppendOwn
namespace Go.Proofs.YtcgmnpppdoadhaaDoor
set_option maxRecDepth 100000
open Go.RowKit
set_option linter.unusedVariables false
set_option linter.unusedSimpArgs false

/-- A row of rights that a draw owns. -/
def SlO (w : World) (base : Nat) (v : Value) : Prop := ∃ rs : List Rt, rs.length ≤ 4 ∧ w.ownsRow base 38 5 v rs.length (rs.flatMap Rt.cells)
/-- A row of at most n numbers that a draw owns. -/
def QuO (w : World) (base : Nat) (v : Value) (n : Nat) : Prop := ∃ zs : List Int, zs.length ≤ n ∧ w.ownsRow base 3 1 v zs.length (zs.map (Value.int .i64))

theorem ownsRow_below {w w' : World} {base : Nat} {e : TypeId} {size : Nat} {v : Value} {n : Nat} {xs : List Value} (h : w.ownsRow base e size v n xs) (hb : Below w.heap.size w w') : w'.ownsRow base e size v n xs := by
  refine ⟨h.1, ?_⟩
  rcases h.2 with hn | ⟨g, cap, cur, rfl, hbg, hgg, rest⟩
  · exact .inl hn
  · exact .inr ⟨g, cap, cur, rfl, hbg, own_below hb hgg, rest⟩
theorem ownsRow_mono {w : World} {base base' : Nat} {e : TypeId} {size : Nat} {v : Value} {n : Nat} {xs : List Value} (h : w.ownsRow base e size v n xs) (hb : base' ≤ base) : w.ownsRow base' e size v n xs := by
  refine ⟨h.1, ?_⟩
  rcases h.2 with hn | ⟨g, cap, cur, rfl, hbg, rest⟩
  · exact .inl hn
  · exact .inr ⟨g, cap, cur, rfl, Nat.le_trans hb hbg, rest⟩
theorem SlO.below {w w' : World} {base : Nat} {v : Value} (h : SlO w base v) (hb : Below w.heap.size w w') : SlO w' base v := by
  obtain ⟨rs, h1, h2⟩ := h; exact ⟨rs, h1, ownsRow_below h2 hb⟩
theorem QuO.below {w w' : World} {base n : Nat} {v : Value} (h : QuO w base v n) (hb : Below w.heap.size w w') : QuO w' base v n := by
  obtain ⟨rs, h1, h2⟩ := h; exact ⟨rs, h1, ownsRow_below h2 hb⟩
theorem SlO.mono {w : World} {base base' : Nat} {v : Value} (h : SlO w base v) (hb : base' ≤ base) : SlO w base' v := by
  obtain ⟨rs, h1, h2⟩ := h; exact ⟨rs, h1, ownsRow_mono h2 hb⟩
theorem QuO.mono {w : World} {base base' n n' : Nat} {v : Value} (h : QuO w base v n) (hb : base' ≤ base) (hn : n ≤ n') : QuO w base' v n' := by
  obtain ⟨rs, h1, h2⟩ := h; exact ⟨rs, Nat.le_trans h1 hn, ownsRow_mono h2 hb⟩
theorem SlO.nil (w : World) (base : Nat) : SlO w base (.slice none 0 0) := ⟨[], by simp, World.ownsRow_nil _ _ _ _⟩
theorem QuO.nil (w : World) (base n : Nat) : QuO w base (.slice none 0 0) n := ⟨[], by simp, World.ownsRow_nil _ _ _ _⟩
theorem SlO.new {w : World} {base B : Nat} (hb : base ≤ B) (h : w.heap[B]? = some (.cells z20 38 (0, 0))) : SlO w base (.slice (some ⟨B, 0, none⟩) 4 4) :=
  ⟨[rt0, rt0, rt0, rt0], by simp, rfl, .inr ⟨B, 4, z20, rfl, hb, h, Nat.le_refl _, by unfold maxLen; omega, by kernel_rfl, by kernel_rfl⟩⟩
theorem SlO.empty {w : World} {base B : Nat} (hb : base ≤ B) (h : w.heap[B]? = some (.cells #[] 38 (0, 0))) : SlO w base (.slice (some ⟨B, 0, none⟩) 0 0) :=
  ⟨[], by simp, rfl, .inr ⟨B, 0, #[], rfl, hb, h, Nat.le_refl _, by unfold maxLen; omega, rfl, rfl⟩⟩
theorem QuO.empty {w : World} {base B : Nat} (hb : base ≤ B) (h : w.heap[B]? = some (.cells #[] 3 (0, 0))) : QuO w base (.slice (some ⟨B, 0, none⟩) 0 0) 0 :=
  ⟨[], by simp, rfl, .inr ⟨B, 0, #[], rfl, hb, h, Nat.le_refl _, by unfold maxLen; omega, rfl, rfl⟩⟩
theorem thingNew_any (kind s v to_ : Int) (w : World) :
    Calls Tryd.prog 84 #[.int .i64 kind, .agg #[.int .i64 s, .int .i64 v], .int .i64 to_] w fun e w' =>
      ∃ (k' s' v' tg : Int) (sv qv : Value) (ok : Bool), e = .returned (.tuple #[.agg #[.int .i64 k', .int .i64 s', .int .i64 v', .int .i64 0, .int .i64 0, sv, qv, .int .i64 tg], .bool ok]) ∧ SlO w' w.heap.size sv ∧ QuO w' w.heap.size qv 0 ∧ Below w.heap.size w w' := by
  cases hk : hasSl kind
  · cases hok : thOk kind s v 0 0 [] [] to_
    · refine (thingNew_bad kind s v to_ hk hok w).mono ?_
      rintro e w' ⟨rfl, hb⟩
      exact ⟨_, _, _, _, _, _, _, rfl, SlO.nil _ _, QuO.nil _ _ _, hb⟩
    · refine (thingNew_good kind s v to_ hk hok w).mono ?_
      rintro e w' ⟨B, C, rfl, h1, h2, h3, h4, hb⟩
      exact ⟨_, _, _, _, _, _, _, rfl, SlO.empty h1 h3, QuO.empty h2 h4, hb⟩
  · cases hok : thOk kind s v 0 0 [rt0, rt0, rt0, rt0] [] to_
    · refine (thingNewS_bad kind s v to_ hk hok w).mono ?_
      rintro e w' ⟨rfl, hb⟩
      exact ⟨_, _, _, _, _, _, _, rfl, SlO.nil _ _, QuO.nil _ _ _, hb⟩
    · refine (thingNewS_good kind s v to_ hk hok w).mono ?_
      rintro e w' ⟨B, C, rfl, h1, h2, h3, h4, hb⟩
      exact ⟨_, _, _, _, _, _, _, rfl, SlO.new h1 h3, QuO.empty h2 h4, hb⟩
end Go.Proofs.YtcgmnpppdoadhaaDoor
