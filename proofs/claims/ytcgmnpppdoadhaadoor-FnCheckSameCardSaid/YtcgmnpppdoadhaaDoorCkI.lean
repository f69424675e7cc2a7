/- What the program tells of a call: a contract of CheckCall. No condition but where the arguments lie, and what errors' variable holds. -/
import Derived.Test.YtcgmnpppdoadhaaDoorExam
import Derived.Test.YtcgmnpppdoadhaaDoorAs
namespace Go.Proofs.YtcgmnpppdoadhaaDoor
set_option maxRecDepth 100000
open Go Go.RowKit
set_option linter.unusedVariables false
set_option linter.unusedSimpArgs false

/-- What errors' variable errorType holds. -/
def HandleAt (w : World) : Prop := w.cell? ⟨0, 0, none⟩ = some (.iface 122 (.agg #[.pointer (some ⟨5, 55, none⟩)])) ∧ 0 < w.heap.size
theorem HandleAt.below {w w' : World} (h : HandleAt w) (hb : Below w.heap.size w w') : HandleAt w' := ⟨(hb.cell (p := ⟨_, _, none⟩) h.2).trans h.1, Nat.lt_of_lt_of_le h.2 hb.size⟩
set_option maxHeartbeats 4000000 in
theorem checkCall_any (ta : Option Addr) (c : Nat) (ts : List Th) (k run a bb n : Int) (w : World) (hT : RowT w ta ts) (hg : HandleAt w) :
    Calls Tryd.prog 9 #[.slice ta ts.length c, .agg #[.int .i64 k, .int .i64 run, .int .i64 a, .int .i64 bb, .int .i64 n]] w fun e w' => e = .returned (.int .i64 (chkCall ts k run a bb n)) ∧ Below w.heap.size w w' := by
  have hV := own_new (w.alloc (.cells #[.int .i64 k, .int .i64 run, .int .i64 a, .int .i64 bb, .int .i64 n] 25)) (.cells #[.pointer none] 52)
  have hC := own_alloc (own_new w (.cells #[.int .i64 k, .int .i64 run, .int .i64 a, .int .i64 bb, .int .i64 n] 25)) (.cells #[.pointer none] 52)
  have tt : Below w.heap.size w ((w.alloc (.cells #[.int .i64 k, .int .i64 run, .int .i64 a, .int .i64 bb, .int .i64 n] 25)).alloc (.cells #[.pointer none] 52)) := ((Below.refl _ _).alloc (Nat.le_refl _) _).alloc (by simp) _
  simp only [World.size_alloc] at hV
  have CE := hid (fun u (hu : Below w.heap.size w u) => examineCall_any ta c ts k run a bb n u (hT.below hu))
  obtain ⟨v, ev⟩ : ∃ v, v = chkCall ts k run a bb n := ⟨_, rfl⟩
  rw [← ev] at CE ⊢
  clear ev hT
  generalize ts.length = m at *
  obtain ⟨cC, fC⟩ := own_cells hC
  go_enter Tryd.func9, Tryd.ntmps9
  go_wp2_with fail
  clear cC fC
  refine (CE.out _ tt).mono ?_
  rintro e w1 ⟨hb, hr⟩
  replace hV := own_below hb hV
  have zu := hb.size
  replace tt := tt.trans (hb.mono tt.size)
  clear hb hC
  rcases hr with ⟨rfl, rfl⟩ | ⟨B, hB0, rfl, hB⟩
  · go_wp2_with fail
    refine (as_nil _ _).mono ?_
    rintro e w2 ⟨rfl, rfl⟩
    go_wp2_with fail
    go_ret
    exact ⟨rfl, tt⟩
  · obtain ⟨cV, fV⟩ := own_cells hV
    have hBV : w.heap.size + 1 < B := by simp at hB0; omega
    go_wp2_with fail
    refine (as_hit ⟨B, 0, none⟩ ⟨w.heap.size + 1, 0, none⟩ (.pointer none) _ (hg.below tt).1 (by rw [cV]; rfl) (fV _)).mono ?_
    rintro e w2 ⟨rfl, hw2⟩
    have t2 : Below w.heap.size w w2 := by
      rw [hw2]
      have zt := tt.size
      (repeat (first | with_reducible exact tt | (with_reducible refine Below.setCell ?_ ?_ _) | (with_reducible refine Below.alloc ?_ ?_ _)))
      all_goals (first | omega | (simp <;> omega))
    have hB2 : w2.heap[B]? = some (.cells #[.int .i64 v] 59 (0, 0)) := by
      rw [hw2]
      refine own_set_ne ?_ (p := ⟨w.heap.size + 1, 0, none⟩) (by simp; omega) _
      repeat (first | with_reducible exact hB | with_reducible apply own_alloc)
    have hV2 : w2.heap[w.heap.size + 1]? = some (.cells #[.pointer (some ⟨B, 0, none⟩)] 52 (0, 0)) := by
      rw [hw2]
      have := own_set (u := ((((w1.alloc (.cells #[.pointer (some ⟨w.heap.size + 1, 0, none⟩)] 57)).alloc (.cells #[.pointer (some ⟨5, 57, none⟩), .pointer (some ⟨w1.heap.size, 0, none⟩), .int .u64 150] 78)).alloc (.cells #[.pointer (some ⟨5, 57, none⟩), .pointer (some ⟨w1.heap.size, 0, none⟩), .int .u64 150] 78)).alloc (.cells #[.pointer (some ⟨B, 0, none⟩)] 52))) (B := w.heap.size + 1) (cs := #[.pointer none]) (T := 52) (fr := (0, 0)) (by repeat (first | with_reducible exact hV | with_reducible apply own_alloc)) 0 (.pointer (some ⟨B, 0, none⟩))
      exact this
    clear hw2 cV fV
    obtain ⟨cB, fB⟩ := own_cells hB2
    obtain ⟨cV, fV⟩ := own_cells hV2
    go_wp2_with fail
    go_ret
    exact ⟨rfl, t2⟩
end Go.Proofs.YtcgmnpppdoadhaaDoor
