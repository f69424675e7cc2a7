/- The walk of the exact law of a thing's check. No condition but where the argument lies. -/
import Derived.Test.YtcgmnpppdoadhaaDoorTo3
import Derived.Test.YtcgmnpppdoadhaaDoorThg3
import Derived.Deep.RegionWith
namespace Go.Proofs.YtcgmnpppdoadhaaDoor
set_option maxRecDepth 100000
open Go.RowKit
set_option linter.unusedVariables false
set_option linter.unusedSimpArgs false

theorem RowR.alloc {w : World} {a : Option Addr} {rs : List Rt} (h : RowR w a rs) (o : Obj) : RowR (w.alloc o) a rs := h.below ((Below.refl _ _).alloc (Nat.le_refl _) _)
theorem RowI.alloc {w : World} {a : Option Addr} {zs : List Int} (h : RowI w a zs) (o : Obj) : RowI (w.alloc o) a zs := h.below ((Below.refl _ _).alloc (Nat.le_refl _) _)
theorem szOne_cases (left m n : Nat) : szOne left m n = -1 ∨ (∃ s : Nat, szOne left m n = s ∧ s ≤ left ∧ m ≤ left ∧ n ≤ left) := by
  unfold szOne
  split
  · exact .inl rfl
  · split
    · exact .inl rfl
    · exact .inr ⟨left - m - n, by omega, by omega, by omega, by omega⟩
end Go.Proofs.YtcgmnpppdoadhaaDoor
