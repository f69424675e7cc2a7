/- The words of a line as they lie in memory: rows of strings that a walk owns. No condition. -/
import Derived.Test.YtcgmnpppdoadhaaDoorItI
import Derived.Test.YtcgmnpppdoadhaaDoorOwn
namespace Go.Proofs.YtcgmnpppdoadhaaDoor
set_option maxRecDepth 100000
open Go Go.RowKit
set_option linter.unusedVariables false
set_option linter.unusedSimpArgs false

theorem infoStr : (Tryd.prog.info? 9).map (fun i => (i.zero, i.size, i.bytes)) = some (some (.string ⟨#[]⟩), 1, 16) := by kernel_rfl
def strs (ws : List (List UInt8)) : List Value := ws.map (fun l => Value.string (txt l))
/-- A row of words that a walk owns. -/
def WsO (u : World) (base : Nat) (v : Value) (n : Nat) (ws : List (List UInt8)) : Prop := ws.length = n ∧ u.ownsRow base 9 1 v n (strs ws)
theorem strs_snoc (ws : List (List UInt8)) (l : List UInt8) : strs ws ++ [Value.string (txt l)] = strs (ws ++ [l]) := by simp [strs]
theorem WsO.below {u u' : World} {base n : Nat} {v : Value} {ws : List (List UInt8)} (h : WsO u base v n ws) (hb : Below u.heap.size u u') : WsO u' base v n ws := ⟨h.1, ownsRow_below h.2 hb⟩
theorem WsO.snoc {u : World} {base n : Nat} {v : Value} {ws : List (List UInt8)} {l : List UInt8} (h : ws.length = n) (h' : u.ownsRow base 9 1 v (n + 1) (strs ws ++ [Value.string (txt l)])) : WsO u base v (n + 1) (ws ++ [l]) :=
  ⟨by simp [h], by rw [← strs_snoc]; exact h'⟩
theorem WsO.some {u : World} {base n : Nat} {v : Value} {ws : List (List UInt8)} (h : WsO u base v n ws) (hn : 0 < n) : ∃ g c, v = .slice (some ⟨g, 0, none⟩) n c ∧ n ≤ c ∧ g < u.heap.size ∧ ∀ (j : Nat) (x : ByteArray), (ws.map txt)[j]? = some x → u.cell? ⟨g, 0 + j, none⟩ = some (.string x) := by
  obtain ⟨h1, h2⟩ := h
  have h3 := h2
  rcases h3.2 with ⟨_, h0⟩ | ⟨g, c, cur, rfl, _, hg, hc, _, _, _⟩
  · omega
  · refine ⟨g, c, rfl, hc, own_lt hg, fun j x hx => ?_⟩
    have := h2.cells (g := g) rfl j (.string x) (by
      rw [List.getElem?_map] at hx
      simp only [strs, List.getElem?_map]
      cases hy : ws[j]? with
      | none => rw [hy] at hx; cases hx
      | some y => rw [hy] at hx; simp at hx; simp [hx])
    rw [Nat.zero_add]
    simpa [Addr.add_lit] using this
theorem txt_list (l : List UInt8) : (txt l).data.toList = l := rfl
theorem map_txt_list (ws : List (List UInt8)) : (ws.map txt).map (·.data.toList) = ws := by
  rw [List.map_map]
  conv => rhs; rw [← List.map_id ws]
  rfl
end Go.Proofs.YtcgmnpppdoadhaaDoor
