/- The walk of the law FnTableForm, on drawn tables. No condition. -/
import Derived.Test.YtcgmnpppdoadhaaDoorDFn
import Derived.Test.YtcgmnpppdoadhaaDoorChk
import Derived.Test.YtcgmnpppdoadhaaDoorLive
import Derived.OwnWalk
namespace Go.Proofs.YtcgmnpppdoadhaaDoor
set_option maxRecDepth 100000
open Go Go.RowKit Go.Shelf
set_option linter.unusedVariables false
set_option linter.unusedSimpArgs false

/-- A row that is no table by its length. -/
theorem tableOk_long (a : Option Addr) (m cap : Nat) (w : World) (e1 : inB m 1 8 = false) (hml : m ≤ 9223372036854775807) :
    Calls Tryd.prog 32 #[.slice a m cap] w fun e w' => e = .returned (.bool false) ∧ Below w.heap.size w w' := by
  have tt : Below w.heap.size w w := Below.refl _ _
  have hA := own_alloc (own_new w (.cells #[.slice a m cap] 23)) (.cells #[.bool false] 4)
  have hR := own_new (w.alloc (.cells #[.slice a m cap] 23)) (.cells #[.bool false] 4)
  simp only [World.size_alloc] at hA hR
  refine (callsIn_wide (n := 6)).1 (callsIn_of_wp_marks Tryd.func32 rfl trivial ((wpIn_wide (n := 6)).2 ?_) rfl)
  simp only [Tryd.ntmps32, List.size_toArray, List.length_cons, List.length_nil, Nat.reduceAdd, Nat.reduceSub, Array.replicate_succ, Array.replicate_zero, List.push_toArray, List.append_toArray, List.nil_append, List.cons_append]
  go_wp2_with (first | (go_at_call 60; refine (inRange_b _ _ _ _).mono ?_; rintro e w' ⟨rfl, hb⟩; (try clear cc_hA ff_hA); (try clear zz_hA zy_hA); (try clear cc_hR ff_hR); (try clear zz_hR zy_hR); have zt := tt.size; (replace tt : Below w.heap.size w w' := by (refine Below.trans ?_ (hb.mono ?_)); (all_goals (repeat (first | with_reducible exact tt | (with_reducible refine Below.setCell ?_ ?_ _) | (with_reducible refine Below.alloc ?_ ?_ _) | with_reducible refine Below.drew ?_)); (all_goals (first | omega | (simp <;> omega))))); clear zt; replace hA := own_below hb (by repeat (first | exact hA | apply own_alloc)); replace hR := own_below hb (by repeat (first | exact hR | apply own_alloc)); obtain ⟨cc_hA, ff_hA⟩ := own_cells hA; have zz_hA := own_lt hA; have zy_hA := Nat.lt_add_right 1 (own_lt hA); obtain ⟨cc_hR, ff_hR⟩ := own_cells hR; have zz_hR := own_lt hR; have zy_hR := Nat.lt_add_right 1 (own_lt hR); clear hb))
  refine bodyM_ret (v := .bool false) ?_ rfl ⟨rfl, ?_⟩
  · simp only [results, Tryd.results32]
    go_simp
  · have zt := tt.size
    (repeat (first | with_reducible exact tt | (with_reducible refine Below.setCell ?_ ?_ _) | (with_reducible refine Below.alloc ?_ ?_ _) | (with_reducible refine Below.drew ?_) | with_reducible refine Below.drewN' ?_ _)); (all_goals (first | omega | (simp <;> omega)))
def lenOf : Value → Nat | .slice _ n _ => n | _ => 0
theorem ownsRow_slice {w : World} {base : Nat} {e : TypeId} {size : Nat} {v : Value} {n : Nat} {xs : List Value} (h : w.ownsRow base e size v n xs) : ∃ a c, v = .slice a n c := by
  rcases h.2 with ⟨rfl, h3⟩ | ⟨g, cap, cur, rfl, _⟩
  · exact ⟨_, _, by rw [h3]⟩
  · exact ⟨_, _, rfl⟩
/-- The cells of a row of things, as they lie. -/
theorem rowCells {w : World} {b off : Nat} {n : Nat} (h : ∀ i, i < n → ∃ t : Th, At8 w b (off + i * 8) t) :
    ∃ news : List Value, news.length = n * 8 ∧ (∀ j u, news[j]? = some u → w.cell? ⟨b, off + j, none⟩ = some u) ∧ ∀ u ∈ news, u.oneCell' = true := by
  have hj : ∀ j, j < n * 8 → ∃ u, w.cell? ⟨b, off + j, none⟩ = some u ∧ u.oneCell' = true := by
    intro j hj
    obtain ⟨t, sa, sc, qa, qc, c0, c1, c2, c3, c4, c5, c6, c7, _⟩ := h (j / 8) (by omega)
    have hk : j % 8 < 8 := Nat.mod_lt _ (by omega)
    have e : off + j = off + j / 8 * 8 + j % 8 := by omega
    rw [e]
    generalize j % 8 = k at hk
    match k, hk with
    | 0, _ => exact ⟨_, c0, rfl⟩
    | 1, _ => exact ⟨_, c1, rfl⟩
    | 2, _ => exact ⟨_, c2, rfl⟩
    | 3, _ => exact ⟨_, c3, rfl⟩
    | 4, _ => exact ⟨_, c4, rfl⟩
    | 5, _ => exact ⟨_, c5, rfl⟩
    | 6, _ => exact ⟨_, c6, rfl⟩
    | 7, _ => exact ⟨_, c7, rfl⟩
  refine ⟨(List.range (n * 8)).map (fun j => (w.cell? ⟨b, off + j, none⟩).getD (.int .i64 0)), by simp, fun j u hu => ?_, fun u hu => ?_⟩
  · rw [List.getElem?_map] at hu
    have hlt : j < n * 8 := by
      apply Classical.byContradiction
      intro hn
      rw [List.getElem?_eq_none (by simpa using Nat.le_of_not_lt hn)] at hu
      cases hu
    obtain ⟨v, hv, _⟩ := hj j hlt
    simp [List.getElem?_range hlt, hv] at hu
    rw [← hu]
    exact hv
  · obtain ⟨j, hm, rfl⟩ := List.mem_map.1 hu
    obtain ⟨v, hv, h1⟩ := hj j (List.mem_range.1 hm)
    rw [hv]
    exact h1
theorem tbl_fit {ts : List Th} (h : tblOk ts = true) {k l : Nat} {t : Th} (hx : ts[k]? = some t) {x : Rt} (hl : t.slots[l]? = some x) : fitB ts x = true := by
  unfold tblOk at h
  simp only [Bool.and_eq_true, List.all_eq_true] at h
  exact h.2 x (List.mem_flatMap.2 ⟨t, List.mem_of_getElem? hx, List.mem_of_getElem? hl⟩)
theorem tbl_gate {ts : List Th} (h : tblOk ts = true) {k : Nat} {t : Th} (hx : ts[k]? = some t) (h5 : (t.kind == 5) = true) : ∃ (j : Nat) (t' : Th), t.tg = (j : Int) + 1 ∧ ts[j]? = some t' ∧ t'.kind = 1 := by
  unfold tblOk at h
  simp only [Bool.and_eq_true, List.all_eq_true] at h
  have hg := (h.1.2 t (List.mem_of_getElem? hx)).2
  unfold gateB at hg
  rw [h5] at hg
  simp only [Bool.not_true, Bool.false_or] at hg
  obtain ⟨j, hj, hjm⟩ := inB_nat (kindAtB_in hg)
  have hxj : ts[j]? = some ts[j] := by simp [hjm]
  refine ⟨j, ts[j], hj, hxj, ?_⟩
  unfold kindAtB at hg
  rw [hj, show ((j : Int) + 1 - 1).toNat = j by omega, hxj] at hg
  simp only [Bool.and_eq_true] at hg
  simpa using hg.2
theorem fit_cases {ts : List Th} {x : Rt} (h : fitB ts x = true) : x.t = 0 ∨ ∃ (j : Nat) (t' : Th), x.t = (j : Int) + 1 ∧ ts[j]? = some t' ∧ x.v ≤ t'.vers := by
  unfold fitB at h
  rw [Bool.or_eq_true] at h
  rcases h with h | h
  · exact .inl (by simpa using h)
  · rw [Bool.and_eq_true] at h
    obtain ⟨j, hj, hjm⟩ := inB_nat h.1
    have hxj : ts[j]? = some ts[j] := by simp [hjm]
    refine .inr ⟨j, ts[j], hj, hxj, ?_⟩
    have h2 := h.2
    rw [hj, show ((j : Int) + 1 - 1).toNat = j by omega, hxj] at h2
    simpa using h2
end Go.Proofs.YtcgmnpppdoadhaaDoor
