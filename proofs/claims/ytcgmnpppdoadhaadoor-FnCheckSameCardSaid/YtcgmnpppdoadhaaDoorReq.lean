/- What a kind of call requires, and whether a call is possible: contracts of the program's requirementOf, hasKind, callPossible. No condition but where the arguments lie. -/
import Derived.Test.YtcgmnpppdoadhaaDoorCkPure
import Derived.Test.YtcgmnpppdoadhaaDoorLive
import Derived.Test.YtcgmnpppdoadhaaDoorOk
namespace Go.Proofs.YtcgmnpppdoadhaaDoor
set_option maxRecDepth 100000
open Go Go.RowKit
set_option linter.unusedVariables false
set_option linter.unusedSimpArgs false

set_option maxHeartbeats 4000000 in
theorem hasKind_any (q0 : Int) (q2 q3 q4 q5 : Bool) (sa : Option Addr) (zs : List Int) (sc : Nat) (kind : Int) (w : World) (hR : RowI w sa zs) :
    Calls Tryd.prog 47 #[.agg #[.int .i64 q0, .slice sa zs.length sc, .bool q2, .bool q3, .bool q4, .bool q5], .int .i64 kind] w fun e w' => e = .returned (.bool (zs.any (· == kind))) ∧ Below w.heap.size w w' := by
  have hml := hR.len
  have hX := own_new w (.cells #[.int .i64 q0, .slice sa zs.length sc, .bool q2, .bool q3, .bool q4, .bool q5] 90)
  have tt : Below w.heap.size w (w.alloc (.cells #[.int .i64 q0, .slice sa zs.length sc, .bool q2, .bool q3, .bool q4, .bool q5] 90)) := (Below.refl _ _).alloc (Nat.le_refl _) _
  have HR := hid hR
  clear hR
  obtain ⟨m, em⟩ : ∃ m, m = zs.length := ⟨_, rfl⟩
  rw [← em] at hml hX tt ⊢
  have EM := hid em
  clear em
  go_enter Tryd.func47, Tryd.ntmps47
  go_wp2_with fail
  go_loopw [10] (fun i wr => ∃ k : Nat, i = .int .i64 (k : Int) ∧ k ≤ m ∧ (∀ j x, j < k → zs[j]? = some x → (x == kind) = false) ∧ Below w.heap.size w wr) (fun i _ => ((m : Int) - intOf i).toNat)
  case atStart => exact ⟨0, rfl, by omega, fun j x h => absurd h (Nat.not_lt_zero _), tt⟩
  case round =>
    clear tt hX
    obtain ⟨k, rfl, hk, hp, tt⟩ := hrel
    have HP := hid hp
    clear hp
    by_cases hkm : k < m
    · obtain ⟨b, off, x, rfl, hx, hb, c0⟩ := HR.out.at (k := k) (by rw [← EM.out]; exact hkm)
      have HX := hid hx
      clear hx
      replace c0 := (tt.cell (p := ⟨b, _, none⟩) hb).trans c0
      cases hq : (x == kind)
      · go_wp2_with fail
        go_roundw
        case rel =>
          refine ⟨k + 1, by go_num, by omega, fun j y hj hy => ?_, tt⟩
          rcases Nat.lt_succ_iff_lt_or_eq.1 hj with h | h
          · exact HP.out j y h hy
          · subst h
            rw [HX.out] at hy
            cases hy
            exact hq
        case measure => simp [intOf]; omega
      · go_wp2_with fail
        go_ret
        refine ⟨ret_bool ?_, tt⟩
        exact (List.any_eq_true.2 ⟨x, List.mem_of_getElem? HX.out, hq⟩).symm
    · go_wp2_with fail
      go_ret
      refine ⟨ret_bool ?_, tt⟩
      refine (List.any_eq_false.2 fun x hx => ?_).symm
      obtain ⟨j, hj⟩ := List.getElem?_of_mem hx
      have hjl : j < m := by rw [EM.out]; exact (List.getElem?_eq_some_iff.1 hj).1
      simp [HP.out j x (by omega) hj]
set_option maxHeartbeats 4000000 in
theorem callPossible_any (ta : Option Addr) (c : Nat) (ts : List Th) (k run a b n : Int) (w : World) (hT : RowT w ta ts) :
    Calls Tryd.prog 45 #[.slice ta ts.length c, .agg #[.int .i64 k, .int .i64 run, .int .i64 a, .int .i64 b, .int .i64 n]] w fun e w' => e = .returned (.bool (callB ts k run a b n)) ∧ Below w.heap.size w w' := by
  have tt : Below w.heap.size w w := Below.refl _ _
  have CT := hid (fun u (hu : Below w.heap.size w u) => tableOk_any ta c ts u (hT.below hu))
  have CC := hid (fun u => callOk_any k run a b n u)
  have CK := hid (fun u (hu : Below w.heap.size w u) => kindAt_any ta c ts run 3 u (hT.below hu))
  obtain ⟨b1, f1⟩ : ∃ b, b = tblOk ts := ⟨_, rfl⟩
  obtain ⟨b2, f2⟩ : ∃ b', b' = clOk k run a b n := ⟨_, rfl⟩
  obtain ⟨b3, f3⟩ : ∃ b, b = kindAtB ts run 3 := ⟨_, rfl⟩
  rw [show callB ts k run a b n = (b1 && (b2 && b3)) by rw [f1, f2, f3]; rfl]
  rw [← f1] at CT
  rw [← f2] at CC
  rw [← f3] at CK
  clear f1 f2 f3 hT
  have hA := own_new w (.cells #[.int .i64 k, .int .i64 run, .int .i64 a, .int .i64 b, .int .i64 n] 25)
  generalize ts.length = m at *
  cases b1 <;> cases b2
  all_goals
    go_enter Tryd.func45, Tryd.ntmps45
    go_wp2_with (first | (go_at_call 32; refine (CT.out _ (by (have zt := tt.size); (repeat (first | with_reducible exact tt | (with_reducible refine Below.setCell ?_ ?_ _) | (with_reducible refine Below.alloc ?_ ?_ _) | with_reducible refine Below.drew ?_)); (all_goals (first | omega | (simp <;> omega))))).mono ?_; rintro e w' ⟨rfl, hb⟩; (try clear cc_hA ff_hA); (try clear zz_hA zy_hA); have zt := tt.size; (replace tt : Below w.heap.size w w' := by (refine Below.trans ?_ (hb.mono ?_)); (all_goals (repeat (first | with_reducible exact tt | (with_reducible refine Below.setCell ?_ ?_ _) | (with_reducible refine Below.alloc ?_ ?_ _) | with_reducible refine Below.drew ?_)); (all_goals (first | omega | (simp <;> omega))))); clear zt; replace hA := own_below hb (by repeat (first | exact hA | apply own_alloc)); obtain ⟨cc_hA, ff_hA⟩ := own_cells hA; have zz_hA := own_lt hA; have zy_hA := Nat.lt_add_right 1 (own_lt hA); clear hb) | (go_at_call 81; refine (CC.out _).mono ?_; rintro e w' ⟨rfl, hb⟩; (try clear cc_hA ff_hA); (try clear zz_hA zy_hA); have zt := tt.size; (replace tt : Below w.heap.size w w' := by (refine Below.trans ?_ (hb.mono ?_)); (all_goals (repeat (first | with_reducible exact tt | (with_reducible refine Below.setCell ?_ ?_ _) | (with_reducible refine Below.alloc ?_ ?_ _) | with_reducible refine Below.drew ?_)); (all_goals (first | omega | (simp <;> omega))))); clear zt; replace hA := own_below hb (by repeat (first | exact hA | apply own_alloc)); obtain ⟨cc_hA, ff_hA⟩ := own_cells hA; have zz_hA := own_lt hA; have zy_hA := Nat.lt_add_right 1 (own_lt hA); clear hb) | (go_at_call 62; refine (CK.out _ (by (have zt := tt.size); (repeat (first | with_reducible exact tt | (with_reducible refine Below.setCell ?_ ?_ _) | (with_reducible refine Below.alloc ?_ ?_ _) | with_reducible refine Below.drew ?_)); (all_goals (first | omega | (simp <;> omega))))).mono ?_; rintro e w' ⟨rfl, hb⟩; (try clear cc_hA ff_hA); (try clear zz_hA zy_hA); have zt := tt.size; (replace tt : Below w.heap.size w w' := by (refine Below.trans ?_ (hb.mono ?_)); (all_goals (repeat (first | with_reducible exact tt | (with_reducible refine Below.setCell ?_ ?_ _) | (with_reducible refine Below.alloc ?_ ?_ _) | with_reducible refine Below.drew ?_)); (all_goals (first | omega | (simp <;> omega))))); clear zt; replace hA := own_below hb (by repeat (first | exact hA | apply own_alloc)); obtain ⟨cc_hA, ff_hA⟩ := own_cells hA; have zz_hA := own_lt hA; have zy_hA := Nat.lt_add_right 1 (own_lt hA); clear hb))
    go_ret
    refine ⟨rfl, ?_⟩
    have zt := tt.size
    (repeat (first | with_reducible exact tt | (with_reducible refine Below.setCell ?_ ?_ _) | (with_reducible refine Below.alloc ?_ ?_ _) | (with_reducible refine Below.drew ?_) | with_reducible refine Below.drewN' ?_ _)); (all_goals (first | omega | (simp <;> omega)))
/-- What requirementOf hands back. -/
def ReqOf (kind : Int) (w : World) (e : Ending) (w' : World) : Prop :=
  ∃ (sa : Option Addr) (zs : List Int) (sc : Nat), e = .returned (.agg #[.int .i64 kind, .slice sa zs.length sc, .bool (needRd kind), .bool (needWr kind), .bool (needRd kind), .bool (needWr kind)]) ∧ zs = needKinds kind ∧ RowI w' sa zs ∧ Below w.heap.size w w'
/-- The table of requirements, as it lies. -/
def ReqSt (w u : World) : Prop := u.heap[w.heap.size]? = some (.cells #[.int .i64 0, .slice none 0 0, .bool false, .bool false, .bool false, .bool false] 90 (0, 0)) ∧ u.heap[w.heap.size + 1]? = some (.cells #[.int .i64 1] 3 (0, 0)) ∧ u.heap[w.heap.size + 1 + 1]? = some (.cells #[.int .i64 1] 3 (0, 0)) ∧ u.heap[w.heap.size + 1 + 1 + 1]? = some (.cells #[.int .i64 2] 3 (0, 0)) ∧ u.heap[w.heap.size + 1 + 1 + 1 + 1]? = some (.cells #[.int .i64 2] 3 (0, 0)) ∧ u.heap[w.heap.size + 1 + 1 + 1 + 1 + 1]? = some (.cells #[.int .i64 4] 3 (0, 0)) ∧ u.heap[w.heap.size + 1 + 1 + 1 + 1 + 1 + 1]? = some (.cells #[.int .i64 4] 3 (0, 0)) ∧ u.heap[w.heap.size + 1 + 1 + 1 + 1 + 1 + 1 + 1]? = some (.cells #[.int .i64 1, .int .i64 2, .int .i64 4] 3 (0, 0)) ∧ u.heap[w.heap.size + 1 + 1 + 1 + 1 + 1 + 1 + 1 + 1]? = some (.cells #[.int .i64 5] 3 (0, 0)) ∧ u.heap[w.heap.size + 1 + 1 + 1 + 1 + 1 + 1 + 1 + 1 + 1]? = some (.cells #[.int .i64 1, .slice (some ⟨w.heap.size + 1, 0, none⟩) 1 1, .bool true, .bool false, .bool true, .bool false, .int .i64 2, .slice (some ⟨w.heap.size + 1 + 1, 0, none⟩) 1 1, .bool false, .bool true, .bool false, .bool true, .int .i64 4, .slice (some ⟨w.heap.size + 1 + 1 + 1, 0, none⟩) 1 1, .bool true, .bool false, .bool true, .bool false, .int .i64 5, .slice (some ⟨w.heap.size + 1 + 1 + 1 + 1, 0, none⟩) 1 1, .bool false, .bool true, .bool false, .bool true, .int .i64 6, .slice (some ⟨w.heap.size + 1 + 1 + 1 + 1 + 1, 0, none⟩) 1 1, .bool false, .bool true, .bool false, .bool true, .int .i64 7, .slice (some ⟨w.heap.size + 1 + 1 + 1 + 1 + 1 + 1, 0, none⟩) 1 1, .bool true, .bool true, .bool true, .bool true, .int .i64 8, .slice (some ⟨w.heap.size + 1 + 1 + 1 + 1 + 1 + 1 + 1, 0, none⟩) 3 3, .bool false, .bool true, .bool false, .bool true, .int .i64 9, .slice (some ⟨w.heap.size + 1 + 1 + 1 + 1 + 1 + 1 + 1 + 1, 0, none⟩) 1 1, .bool false, .bool true, .bool false, .bool true] 90 (0, 0))
theorem ReqSt.below {w u u' : World} (h : ReqSt w u) (hb : Below u.heap.size u u') : ReqSt w u' := by
  obtain ⟨h0, h1, h2, h3, h4, h5, h6, h7, h8, h9⟩ := h
  exact ⟨own_below hb h0, own_below hb h1, own_below hb h2, own_below hb h3, own_below hb h4, own_below hb h5, own_below hb h6, own_below hb h7, own_below hb h8, own_below hb h9⟩
theorem ReqSt.start (w : World) : ReqSt w ((((((((((w.alloc (.cells #[.int .i64 0, .slice none 0 0, .bool false, .bool false, .bool false, .bool false] 90)).alloc (.cells #[.int .i64 1] 3)).alloc (.cells #[.int .i64 1] 3)).alloc (.cells #[.int .i64 2] 3)).alloc (.cells #[.int .i64 2] 3)).alloc (.cells #[.int .i64 4] 3)).alloc (.cells #[.int .i64 4] 3)).alloc (.cells #[.int .i64 1, .int .i64 2, .int .i64 4] 3)).alloc (.cells #[.int .i64 5] 3)).alloc (.cells #[.int .i64 1, .slice (some ⟨w.heap.size + 1, 0, none⟩) 1 1, .bool true, .bool false, .bool true, .bool false, .int .i64 2, .slice (some ⟨w.heap.size + 1 + 1, 0, none⟩) 1 1, .bool false, .bool true, .bool false, .bool true, .int .i64 4, .slice (some ⟨w.heap.size + 1 + 1 + 1, 0, none⟩) 1 1, .bool true, .bool false, .bool true, .bool false, .int .i64 5, .slice (some ⟨w.heap.size + 1 + 1 + 1 + 1, 0, none⟩) 1 1, .bool false, .bool true, .bool false, .bool true, .int .i64 6, .slice (some ⟨w.heap.size + 1 + 1 + 1 + 1 + 1, 0, none⟩) 1 1, .bool false, .bool true, .bool false, .bool true, .int .i64 7, .slice (some ⟨w.heap.size + 1 + 1 + 1 + 1 + 1 + 1, 0, none⟩) 1 1, .bool true, .bool true, .bool true, .bool true, .int .i64 8, .slice (some ⟨w.heap.size + 1 + 1 + 1 + 1 + 1 + 1 + 1, 0, none⟩) 3 3, .bool false, .bool true, .bool false, .bool true, .int .i64 9, .slice (some ⟨w.heap.size + 1 + 1 + 1 + 1 + 1 + 1 + 1 + 1, 0, none⟩) 1 1, .bool false, .bool true, .bool false, .bool true] 90)) := by
  have h0 := own_alloc (own_alloc (own_alloc (own_alloc (own_alloc (own_alloc (own_alloc (own_alloc (own_alloc (own_new w (.cells #[.int .i64 0, .slice none 0 0, .bool false, .bool false, .bool false, .bool false] 90)) (.cells #[.int .i64 1] 3)) (.cells #[.int .i64 1] 3)) (.cells #[.int .i64 2] 3)) (.cells #[.int .i64 2] 3)) (.cells #[.int .i64 4] 3)) (.cells #[.int .i64 4] 3)) (.cells #[.int .i64 1, .int .i64 2, .int .i64 4] 3)) (.cells #[.int .i64 5] 3)) (.cells #[.int .i64 1, .slice (some ⟨w.heap.size + 1, 0, none⟩) 1 1, .bool true, .bool false, .bool true, .bool false, .int .i64 2, .slice (some ⟨w.heap.size + 1 + 1, 0, none⟩) 1 1, .bool false, .bool true, .bool false, .bool true, .int .i64 4, .slice (some ⟨w.heap.size + 1 + 1 + 1, 0, none⟩) 1 1, .bool true, .bool false, .bool true, .bool false, .int .i64 5, .slice (some ⟨w.heap.size + 1 + 1 + 1 + 1, 0, none⟩) 1 1, .bool false, .bool true, .bool false, .bool true, .int .i64 6, .slice (some ⟨w.heap.size + 1 + 1 + 1 + 1 + 1, 0, none⟩) 1 1, .bool false, .bool true, .bool false, .bool true, .int .i64 7, .slice (some ⟨w.heap.size + 1 + 1 + 1 + 1 + 1 + 1, 0, none⟩) 1 1, .bool true, .bool true, .bool true, .bool true, .int .i64 8, .slice (some ⟨w.heap.size + 1 + 1 + 1 + 1 + 1 + 1 + 1, 0, none⟩) 3 3, .bool false, .bool true, .bool false, .bool true, .int .i64 9, .slice (some ⟨w.heap.size + 1 + 1 + 1 + 1 + 1 + 1 + 1 + 1, 0, none⟩) 1 1, .bool false, .bool true, .bool false, .bool true] 90)
  have h1 := own_alloc (own_alloc (own_alloc (own_alloc (own_alloc (own_alloc (own_alloc (own_alloc (own_new (w.alloc (.cells #[.int .i64 0, .slice none 0 0, .bool false, .bool false, .bool false, .bool false] 90)) (.cells #[.int .i64 1] 3)) (.cells #[.int .i64 1] 3)) (.cells #[.int .i64 2] 3)) (.cells #[.int .i64 2] 3)) (.cells #[.int .i64 4] 3)) (.cells #[.int .i64 4] 3)) (.cells #[.int .i64 1, .int .i64 2, .int .i64 4] 3)) (.cells #[.int .i64 5] 3)) (.cells #[.int .i64 1, .slice (some ⟨w.heap.size + 1, 0, none⟩) 1 1, .bool true, .bool false, .bool true, .bool false, .int .i64 2, .slice (some ⟨w.heap.size + 1 + 1, 0, none⟩) 1 1, .bool false, .bool true, .bool false, .bool true, .int .i64 4, .slice (some ⟨w.heap.size + 1 + 1 + 1, 0, none⟩) 1 1, .bool true, .bool false, .bool true, .bool false, .int .i64 5, .slice (some ⟨w.heap.size + 1 + 1 + 1 + 1, 0, none⟩) 1 1, .bool false, .bool true, .bool false, .bool true, .int .i64 6, .slice (some ⟨w.heap.size + 1 + 1 + 1 + 1 + 1, 0, none⟩) 1 1, .bool false, .bool true, .bool false, .bool true, .int .i64 7, .slice (some ⟨w.heap.size + 1 + 1 + 1 + 1 + 1 + 1, 0, none⟩) 1 1, .bool true, .bool true, .bool true, .bool true, .int .i64 8, .slice (some ⟨w.heap.size + 1 + 1 + 1 + 1 + 1 + 1 + 1, 0, none⟩) 3 3, .bool false, .bool true, .bool false, .bool true, .int .i64 9, .slice (some ⟨w.heap.size + 1 + 1 + 1 + 1 + 1 + 1 + 1 + 1, 0, none⟩) 1 1, .bool false, .bool true, .bool false, .bool true] 90)
  have h2 := own_alloc (own_alloc (own_alloc (own_alloc (own_alloc (own_alloc (own_alloc (own_new ((w.alloc (.cells #[.int .i64 0, .slice none 0 0, .bool false, .bool false, .bool false, .bool false] 90)).alloc (.cells #[.int .i64 1] 3)) (.cells #[.int .i64 1] 3)) (.cells #[.int .i64 2] 3)) (.cells #[.int .i64 2] 3)) (.cells #[.int .i64 4] 3)) (.cells #[.int .i64 4] 3)) (.cells #[.int .i64 1, .int .i64 2, .int .i64 4] 3)) (.cells #[.int .i64 5] 3)) (.cells #[.int .i64 1, .slice (some ⟨w.heap.size + 1, 0, none⟩) 1 1, .bool true, .bool false, .bool true, .bool false, .int .i64 2, .slice (some ⟨w.heap.size + 1 + 1, 0, none⟩) 1 1, .bool false, .bool true, .bool false, .bool true, .int .i64 4, .slice (some ⟨w.heap.size + 1 + 1 + 1, 0, none⟩) 1 1, .bool true, .bool false, .bool true, .bool false, .int .i64 5, .slice (some ⟨w.heap.size + 1 + 1 + 1 + 1, 0, none⟩) 1 1, .bool false, .bool true, .bool false, .bool true, .int .i64 6, .slice (some ⟨w.heap.size + 1 + 1 + 1 + 1 + 1, 0, none⟩) 1 1, .bool false, .bool true, .bool false, .bool true, .int .i64 7, .slice (some ⟨w.heap.size + 1 + 1 + 1 + 1 + 1 + 1, 0, none⟩) 1 1, .bool true, .bool true, .bool true, .bool true, .int .i64 8, .slice (some ⟨w.heap.size + 1 + 1 + 1 + 1 + 1 + 1 + 1, 0, none⟩) 3 3, .bool false, .bool true, .bool false, .bool true, .int .i64 9, .slice (some ⟨w.heap.size + 1 + 1 + 1 + 1 + 1 + 1 + 1 + 1, 0, none⟩) 1 1, .bool false, .bool true, .bool false, .bool true] 90)
  have h3 := own_alloc (own_alloc (own_alloc (own_alloc (own_alloc (own_alloc (own_new (((w.alloc (.cells #[.int .i64 0, .slice none 0 0, .bool false, .bool false, .bool false, .bool false] 90)).alloc (.cells #[.int .i64 1] 3)).alloc (.cells #[.int .i64 1] 3)) (.cells #[.int .i64 2] 3)) (.cells #[.int .i64 2] 3)) (.cells #[.int .i64 4] 3)) (.cells #[.int .i64 4] 3)) (.cells #[.int .i64 1, .int .i64 2, .int .i64 4] 3)) (.cells #[.int .i64 5] 3)) (.cells #[.int .i64 1, .slice (some ⟨w.heap.size + 1, 0, none⟩) 1 1, .bool true, .bool false, .bool true, .bool false, .int .i64 2, .slice (some ⟨w.heap.size + 1 + 1, 0, none⟩) 1 1, .bool false, .bool true, .bool false, .bool true, .int .i64 4, .slice (some ⟨w.heap.size + 1 + 1 + 1, 0, none⟩) 1 1, .bool true, .bool false, .bool true, .bool false, .int .i64 5, .slice (some ⟨w.heap.size + 1 + 1 + 1 + 1, 0, none⟩) 1 1, .bool false, .bool true, .bool false, .bool true, .int .i64 6, .slice (some ⟨w.heap.size + 1 + 1 + 1 + 1 + 1, 0, none⟩) 1 1, .bool false, .bool true, .bool false, .bool true, .int .i64 7, .slice (some ⟨w.heap.size + 1 + 1 + 1 + 1 + 1 + 1, 0, none⟩) 1 1, .bool true, .bool true, .bool true, .bool true, .int .i64 8, .slice (some ⟨w.heap.size + 1 + 1 + 1 + 1 + 1 + 1 + 1, 0, none⟩) 3 3, .bool false, .bool true, .bool false, .bool true, .int .i64 9, .slice (some ⟨w.heap.size + 1 + 1 + 1 + 1 + 1 + 1 + 1 + 1, 0, none⟩) 1 1, .bool false, .bool true, .bool false, .bool true] 90)
  have h4 := own_alloc (own_alloc (own_alloc (own_alloc (own_alloc (own_new ((((w.alloc (.cells #[.int .i64 0, .slice none 0 0, .bool false, .bool false, .bool false, .bool false] 90)).alloc (.cells #[.int .i64 1] 3)).alloc (.cells #[.int .i64 1] 3)).alloc (.cells #[.int .i64 2] 3)) (.cells #[.int .i64 2] 3)) (.cells #[.int .i64 4] 3)) (.cells #[.int .i64 4] 3)) (.cells #[.int .i64 1, .int .i64 2, .int .i64 4] 3)) (.cells #[.int .i64 5] 3)) (.cells #[.int .i64 1, .slice (some ⟨w.heap.size + 1, 0, none⟩) 1 1, .bool true, .bool false, .bool true, .bool false, .int .i64 2, .slice (some ⟨w.heap.size + 1 + 1, 0, none⟩) 1 1, .bool false, .bool true, .bool false, .bool true, .int .i64 4, .slice (some ⟨w.heap.size + 1 + 1 + 1, 0, none⟩) 1 1, .bool true, .bool false, .bool true, .bool false, .int .i64 5, .slice (some ⟨w.heap.size + 1 + 1 + 1 + 1, 0, none⟩) 1 1, .bool false, .bool true, .bool false, .bool true, .int .i64 6, .slice (some ⟨w.heap.size + 1 + 1 + 1 + 1 + 1, 0, none⟩) 1 1, .bool false, .bool true, .bool false, .bool true, .int .i64 7, .slice (some ⟨w.heap.size + 1 + 1 + 1 + 1 + 1 + 1, 0, none⟩) 1 1, .bool true, .bool true, .bool true, .bool true, .int .i64 8, .slice (some ⟨w.heap.size + 1 + 1 + 1 + 1 + 1 + 1 + 1, 0, none⟩) 3 3, .bool false, .bool true, .bool false, .bool true, .int .i64 9, .slice (some ⟨w.heap.size + 1 + 1 + 1 + 1 + 1 + 1 + 1 + 1, 0, none⟩) 1 1, .bool false, .bool true, .bool false, .bool true] 90)
  have h5 := own_alloc (own_alloc (own_alloc (own_alloc (own_new (((((w.alloc (.cells #[.int .i64 0, .slice none 0 0, .bool false, .bool false, .bool false, .bool false] 90)).alloc (.cells #[.int .i64 1] 3)).alloc (.cells #[.int .i64 1] 3)).alloc (.cells #[.int .i64 2] 3)).alloc (.cells #[.int .i64 2] 3)) (.cells #[.int .i64 4] 3)) (.cells #[.int .i64 4] 3)) (.cells #[.int .i64 1, .int .i64 2, .int .i64 4] 3)) (.cells #[.int .i64 5] 3)) (.cells #[.int .i64 1, .slice (some ⟨w.heap.size + 1, 0, none⟩) 1 1, .bool true, .bool false, .bool true, .bool false, .int .i64 2, .slice (some ⟨w.heap.size + 1 + 1, 0, none⟩) 1 1, .bool false, .bool true, .bool false, .bool true, .int .i64 4, .slice (some ⟨w.heap.size + 1 + 1 + 1, 0, none⟩) 1 1, .bool true, .bool false, .bool true, .bool false, .int .i64 5, .slice (some ⟨w.heap.size + 1 + 1 + 1 + 1, 0, none⟩) 1 1, .bool false, .bool true, .bool false, .bool true, .int .i64 6, .slice (some ⟨w.heap.size + 1 + 1 + 1 + 1 + 1, 0, none⟩) 1 1, .bool false, .bool true, .bool false, .bool true, .int .i64 7, .slice (some ⟨w.heap.size + 1 + 1 + 1 + 1 + 1 + 1, 0, none⟩) 1 1, .bool true, .bool true, .bool true, .bool true, .int .i64 8, .slice (some ⟨w.heap.size + 1 + 1 + 1 + 1 + 1 + 1 + 1, 0, none⟩) 3 3, .bool false, .bool true, .bool false, .bool true, .int .i64 9, .slice (some ⟨w.heap.size + 1 + 1 + 1 + 1 + 1 + 1 + 1 + 1, 0, none⟩) 1 1, .bool false, .bool true, .bool false, .bool true] 90)
  have h6 := own_alloc (own_alloc (own_alloc (own_new ((((((w.alloc (.cells #[.int .i64 0, .slice none 0 0, .bool false, .bool false, .bool false, .bool false] 90)).alloc (.cells #[.int .i64 1] 3)).alloc (.cells #[.int .i64 1] 3)).alloc (.cells #[.int .i64 2] 3)).alloc (.cells #[.int .i64 2] 3)).alloc (.cells #[.int .i64 4] 3)) (.cells #[.int .i64 4] 3)) (.cells #[.int .i64 1, .int .i64 2, .int .i64 4] 3)) (.cells #[.int .i64 5] 3)) (.cells #[.int .i64 1, .slice (some ⟨w.heap.size + 1, 0, none⟩) 1 1, .bool true, .bool false, .bool true, .bool false, .int .i64 2, .slice (some ⟨w.heap.size + 1 + 1, 0, none⟩) 1 1, .bool false, .bool true, .bool false, .bool true, .int .i64 4, .slice (some ⟨w.heap.size + 1 + 1 + 1, 0, none⟩) 1 1, .bool true, .bool false, .bool true, .bool false, .int .i64 5, .slice (some ⟨w.heap.size + 1 + 1 + 1 + 1, 0, none⟩) 1 1, .bool false, .bool true, .bool false, .bool true, .int .i64 6, .slice (some ⟨w.heap.size + 1 + 1 + 1 + 1 + 1, 0, none⟩) 1 1, .bool false, .bool true, .bool false, .bool true, .int .i64 7, .slice (some ⟨w.heap.size + 1 + 1 + 1 + 1 + 1 + 1, 0, none⟩) 1 1, .bool true, .bool true, .bool true, .bool true, .int .i64 8, .slice (some ⟨w.heap.size + 1 + 1 + 1 + 1 + 1 + 1 + 1, 0, none⟩) 3 3, .bool false, .bool true, .bool false, .bool true, .int .i64 9, .slice (some ⟨w.heap.size + 1 + 1 + 1 + 1 + 1 + 1 + 1 + 1, 0, none⟩) 1 1, .bool false, .bool true, .bool false, .bool true] 90)
  have h7 := own_alloc (own_alloc (own_new (((((((w.alloc (.cells #[.int .i64 0, .slice none 0 0, .bool false, .bool false, .bool false, .bool false] 90)).alloc (.cells #[.int .i64 1] 3)).alloc (.cells #[.int .i64 1] 3)).alloc (.cells #[.int .i64 2] 3)).alloc (.cells #[.int .i64 2] 3)).alloc (.cells #[.int .i64 4] 3)).alloc (.cells #[.int .i64 4] 3)) (.cells #[.int .i64 1, .int .i64 2, .int .i64 4] 3)) (.cells #[.int .i64 5] 3)) (.cells #[.int .i64 1, .slice (some ⟨w.heap.size + 1, 0, none⟩) 1 1, .bool true, .bool false, .bool true, .bool false, .int .i64 2, .slice (some ⟨w.heap.size + 1 + 1, 0, none⟩) 1 1, .bool false, .bool true, .bool false, .bool true, .int .i64 4, .slice (some ⟨w.heap.size + 1 + 1 + 1, 0, none⟩) 1 1, .bool true, .bool false, .bool true, .bool false, .int .i64 5, .slice (some ⟨w.heap.size + 1 + 1 + 1 + 1, 0, none⟩) 1 1, .bool false, .bool true, .bool false, .bool true, .int .i64 6, .slice (some ⟨w.heap.size + 1 + 1 + 1 + 1 + 1, 0, none⟩) 1 1, .bool false, .bool true, .bool false, .bool true, .int .i64 7, .slice (some ⟨w.heap.size + 1 + 1 + 1 + 1 + 1 + 1, 0, none⟩) 1 1, .bool true, .bool true, .bool true, .bool true, .int .i64 8, .slice (some ⟨w.heap.size + 1 + 1 + 1 + 1 + 1 + 1 + 1, 0, none⟩) 3 3, .bool false, .bool true, .bool false, .bool true, .int .i64 9, .slice (some ⟨w.heap.size + 1 + 1 + 1 + 1 + 1 + 1 + 1 + 1, 0, none⟩) 1 1, .bool false, .bool true, .bool false, .bool true] 90)
  have h8 := own_alloc (own_new ((((((((w.alloc (.cells #[.int .i64 0, .slice none 0 0, .bool false, .bool false, .bool false, .bool false] 90)).alloc (.cells #[.int .i64 1] 3)).alloc (.cells #[.int .i64 1] 3)).alloc (.cells #[.int .i64 2] 3)).alloc (.cells #[.int .i64 2] 3)).alloc (.cells #[.int .i64 4] 3)).alloc (.cells #[.int .i64 4] 3)).alloc (.cells #[.int .i64 1, .int .i64 2, .int .i64 4] 3)) (.cells #[.int .i64 5] 3)) (.cells #[.int .i64 1, .slice (some ⟨w.heap.size + 1, 0, none⟩) 1 1, .bool true, .bool false, .bool true, .bool false, .int .i64 2, .slice (some ⟨w.heap.size + 1 + 1, 0, none⟩) 1 1, .bool false, .bool true, .bool false, .bool true, .int .i64 4, .slice (some ⟨w.heap.size + 1 + 1 + 1, 0, none⟩) 1 1, .bool true, .bool false, .bool true, .bool false, .int .i64 5, .slice (some ⟨w.heap.size + 1 + 1 + 1 + 1, 0, none⟩) 1 1, .bool false, .bool true, .bool false, .bool true, .int .i64 6, .slice (some ⟨w.heap.size + 1 + 1 + 1 + 1 + 1, 0, none⟩) 1 1, .bool false, .bool true, .bool false, .bool true, .int .i64 7, .slice (some ⟨w.heap.size + 1 + 1 + 1 + 1 + 1 + 1, 0, none⟩) 1 1, .bool true, .bool true, .bool true, .bool true, .int .i64 8, .slice (some ⟨w.heap.size + 1 + 1 + 1 + 1 + 1 + 1 + 1, 0, none⟩) 3 3, .bool false, .bool true, .bool false, .bool true, .int .i64 9, .slice (some ⟨w.heap.size + 1 + 1 + 1 + 1 + 1 + 1 + 1 + 1, 0, none⟩) 1 1, .bool false, .bool true, .bool false, .bool true] 90)
  have h9 := own_new (((((((((w.alloc (.cells #[.int .i64 0, .slice none 0 0, .bool false, .bool false, .bool false, .bool false] 90)).alloc (.cells #[.int .i64 1] 3)).alloc (.cells #[.int .i64 1] 3)).alloc (.cells #[.int .i64 2] 3)).alloc (.cells #[.int .i64 2] 3)).alloc (.cells #[.int .i64 4] 3)).alloc (.cells #[.int .i64 4] 3)).alloc (.cells #[.int .i64 1, .int .i64 2, .int .i64 4] 3)).alloc (.cells #[.int .i64 5] 3)) (.cells #[.int .i64 1, .slice (some ⟨w.heap.size + 1, 0, none⟩) 1 1, .bool true, .bool false, .bool true, .bool false, .int .i64 2, .slice (some ⟨w.heap.size + 1 + 1, 0, none⟩) 1 1, .bool false, .bool true, .bool false, .bool true, .int .i64 4, .slice (some ⟨w.heap.size + 1 + 1 + 1, 0, none⟩) 1 1, .bool true, .bool false, .bool true, .bool false, .int .i64 5, .slice (some ⟨w.heap.size + 1 + 1 + 1 + 1, 0, none⟩) 1 1, .bool false, .bool true, .bool false, .bool true, .int .i64 6, .slice (some ⟨w.heap.size + 1 + 1 + 1 + 1 + 1, 0, none⟩) 1 1, .bool false, .bool true, .bool false, .bool true, .int .i64 7, .slice (some ⟨w.heap.size + 1 + 1 + 1 + 1 + 1 + 1, 0, none⟩) 1 1, .bool true, .bool true, .bool true, .bool true, .int .i64 8, .slice (some ⟨w.heap.size + 1 + 1 + 1 + 1 + 1 + 1 + 1, 0, none⟩) 3 3, .bool false, .bool true, .bool false, .bool true, .int .i64 9, .slice (some ⟨w.heap.size + 1 + 1 + 1 + 1 + 1 + 1 + 1 + 1, 0, none⟩) 1 1, .bool false, .bool true, .bool false, .bool true] 90)
  simp only [World.size_alloc] at h0 h1 h2 h3 h4 h5 h6 h7 h8 h9
  exact ⟨h0, h1, h2, h3, h4, h5, h6, h7, h8, h9⟩
def reqCalls : List Int := [1, 2, 4, 5, 6, 7, 8, 9]
set_option maxHeartbeats 4000000 in
set_option maxRecDepth 100000 in
theorem requirementOf_any (kind : Int) (w : World) (h1k : inB kind 1 9 = true) (h3k : (kind == 3) = false) :
    Calls Tryd.prog 46 #[.int .i64 kind] w (ReqOf kind w) := by
  have hS := ReqSt.start w
  have tt : Below w.heap.size w ((((((((((w.alloc (.cells #[.int .i64 0, .slice none 0 0, .bool false, .bool false, .bool false, .bool false] 90)).alloc (.cells #[.int .i64 1] 3)).alloc (.cells #[.int .i64 1] 3)).alloc (.cells #[.int .i64 2] 3)).alloc (.cells #[.int .i64 2] 3)).alloc (.cells #[.int .i64 4] 3)).alloc (.cells #[.int .i64 4] 3)).alloc (.cells #[.int .i64 1, .int .i64 2, .int .i64 4] 3)).alloc (.cells #[.int .i64 5] 3)).alloc (.cells #[.int .i64 1, .slice (some ⟨w.heap.size + 1, 0, none⟩) 1 1, .bool true, .bool false, .bool true, .bool false, .int .i64 2, .slice (some ⟨w.heap.size + 1 + 1, 0, none⟩) 1 1, .bool false, .bool true, .bool false, .bool true, .int .i64 4, .slice (some ⟨w.heap.size + 1 + 1 + 1, 0, none⟩) 1 1, .bool true, .bool false, .bool true, .bool false, .int .i64 5, .slice (some ⟨w.heap.size + 1 + 1 + 1 + 1, 0, none⟩) 1 1, .bool false, .bool true, .bool false, .bool true, .int .i64 6, .slice (some ⟨w.heap.size + 1 + 1 + 1 + 1 + 1, 0, none⟩) 1 1, .bool false, .bool true, .bool false, .bool true, .int .i64 7, .slice (some ⟨w.heap.size + 1 + 1 + 1 + 1 + 1 + 1, 0, none⟩) 1 1, .bool true, .bool true, .bool true, .bool true, .int .i64 8, .slice (some ⟨w.heap.size + 1 + 1 + 1 + 1 + 1 + 1 + 1, 0, none⟩) 3 3, .bool false, .bool true, .bool false, .bool true, .int .i64 9, .slice (some ⟨w.heap.size + 1 + 1 + 1 + 1 + 1 + 1 + 1 + 1, 0, none⟩) 1 1, .bool false, .bool true, .bool false, .bool true] 90)) := by
    (repeat (first | exact Below.refl _ _ | refine Below.alloc ?_ ?_ _)); all_goals (first | omega | (simp <;> omega))
  go_enter Tryd.func46, Tryd.ntmps46
  go_wp2_with fail
  go_loopw [25] (fun i wr => ∃ k : Nat, i = .int .i64 (k : Int) ∧ k ≤ 8 ∧ (∀ j x, j < k → reqCalls[j]? = some x → (x == kind) = false) ∧ ReqSt w wr ∧ Below w.heap.size w wr) (fun i _ => (8 - intOf i).toNat)
  case atStart => exact ⟨0, rfl, by omega, fun j x h => absurd h (Nat.not_lt_zero _), hS, tt⟩
  case round =>
    clear tt hS
    obtain ⟨k, rfl, hk, hp, hS, tt⟩ := hrel
    have HP := hid hp
    have HS := hid hS
    clear hp
    have zt := tt.size
    obtain ⟨h0, h1, h2, h3, h4, h5, h6, h7, h8, h9⟩ := hS
    have z9 := own_lt h9
    rcases (show k = 0 ∨ k = 1 ∨ k = 2 ∨ k = 3 ∨ k = 4 ∨ k = 5 ∨ k = 6 ∨ k = 7 ∨ k = 8 by omega) with rfl | rfl | rfl | rfl | rfl | rfl | rfl | rfl | rfl
    · have c0 : wr.cell? ⟨w.heap.size + 1 + 1 + 1 + 1 + 1 + 1 + 1 + 1 + 1, 0, none⟩ = some (.int .i64 1) := ((own_cells h9).1 _).trans rfl
      have c1 : wr.cell? ⟨w.heap.size + 1 + 1 + 1 + 1 + 1 + 1 + 1 + 1 + 1, 1, none⟩ = some (.slice (some ⟨w.heap.size + 1, 0, none⟩) 1 1) := ((own_cells h9).1 _).trans rfl
      have c2 : wr.cell? ⟨w.heap.size + 1 + 1 + 1 + 1 + 1 + 1 + 1 + 1 + 1, 2, none⟩ = some (.bool true) := ((own_cells h9).1 _).trans rfl
      have c3 : wr.cell? ⟨w.heap.size + 1 + 1 + 1 + 1 + 1 + 1 + 1 + 1 + 1, 3, none⟩ = some (.bool false) := ((own_cells h9).1 _).trans rfl
      have c4 : wr.cell? ⟨w.heap.size + 1 + 1 + 1 + 1 + 1 + 1 + 1 + 1 + 1, 4, none⟩ = some (.bool true) := ((own_cells h9).1 _).trans rfl
      have c5 : wr.cell? ⟨w.heap.size + 1 + 1 + 1 + 1 + 1 + 1 + 1 + 1 + 1, 5, none⟩ = some (.bool false) := ((own_cells h9).1 _).trans rfl
      have hX := own_new wr (.cells #[.int .i64 1, .slice (some ⟨w.heap.size + 1, 0, none⟩) 1 1, .bool true, .bool false, .bool true, .bool false] 90)
      have hB := (Below.refl wr.heap.size wr).alloc (Nat.le_refl _) (.cells #[.int .i64 1, .slice (some ⟨w.heap.size + 1, 0, none⟩) 1 1, .bool true, .bool false, .bool true, .bool false] 90)
      have hK := own_below hB h1
      have hR := own_below hB h0
      have tX := tt.trans (hB.mono zt)
      have HS' := hid (HS.out.below hB)
      clear h0 h1 h2 h3 h4 h5 h6 h7 h8 h9
      cases hq : ((1 : Int) == kind)
      · clear hK hR
        go_wp2_with fail
        go_roundw
        case rel =>
          refine ⟨1, by go_num, by omega, fun j y hj hy => ?_, HS'.out, tX⟩
          rcases Nat.lt_succ_iff_lt_or_eq.1 hj with h | h
          · exact HP.out j y h hy
          · subst h; cases hy; exact hq
        case measure => simp [intOf]
      · obtain rfl : kind = 1 := by simpa using (eq_of_beq hq).symm
        obtain ⟨cR, fR⟩ := own_cells hR
        have zR := own_lt hR
        have hE := own_set (own_set (own_set (own_set (own_set (own_set hR 0 (.int .i64 1)) 1 (.slice (some ⟨w.heap.size + 1, 0, none⟩) 1 1)) 2 (.bool true)) 3 (.bool false)) 4 (.bool true)) 5 (.bool false)
        have hK' := own_set_ne (own_set_ne (own_set_ne (own_set_ne (own_set_ne (own_set_ne (hK) (p := ⟨w.heap.size, 0, none⟩) (by simp <;> omega) (.int .i64 1)) (p := ⟨w.heap.size, 1, none⟩) (by simp <;> omega) (.slice (some ⟨w.heap.size + 1, 0, none⟩) 1 1)) (p := ⟨w.heap.size, 2, none⟩) (by simp <;> omega) (.bool true)) (p := ⟨w.heap.size, 3, none⟩) (by simp <;> omega) (.bool false)) (p := ⟨w.heap.size, 4, none⟩) (by simp <;> omega) (.bool true)) (p := ⟨w.heap.size, 5, none⟩) (by simp <;> omega) (.bool false)
        have tE := ((((((tX).setCell (p := ⟨w.heap.size, 0, none⟩) (by simp) (.int .i64 1)).setCell (p := ⟨w.heap.size, 1, none⟩) (by simp) (.slice (some ⟨w.heap.size + 1, 0, none⟩) 1 1)).setCell (p := ⟨w.heap.size, 2, none⟩) (by simp) (.bool true)).setCell (p := ⟨w.heap.size, 3, none⟩) (by simp) (.bool false)).setCell (p := ⟨w.heap.size, 4, none⟩) (by simp) (.bool true)).setCell (p := ⟨w.heap.size, 5, none⟩) (by simp) (.bool false)
        obtain ⟨ocE, _⟩ := own_cells hE
        simp at ocE
        have HK := hid hK'
        have HT := hid tE
        have HO := hid ocE
        clear hK hK' tE ocE hE hR
        go_wp2_with fail
        have ocE := HO.out
        clear cR fR c0 c1 c2 c3 c4 c5
        refine bodyPost_ret (v := .agg #[.int .i64 1, .slice (some ⟨w.heap.size + 1, 0, none⟩) 1 1, .bool true, .bool false, .bool true, .bool false]) ?_ rfl ?_
        · simp only [results, Tryd.results46]
          go_simp
        · refine ⟨some ⟨w.heap.size + 1, 0, none⟩, [(1 : Int)], 1, rfl, rfl, ?_, HT.out⟩
          have hk0 := HK.out
          refine .inr ⟨_, 0, rfl, own_lt hk0, by simp, fun i x hx => ?_⟩
          have oc := (own_cells hk0).1
          match i, hx with
          | 0, hx => cases hx; exact (oc _).trans rfl
          | n + 1, hx => cases hx
    · have c0 : wr.cell? ⟨w.heap.size + 1 + 1 + 1 + 1 + 1 + 1 + 1 + 1 + 1, 6, none⟩ = some (.int .i64 2) := ((own_cells h9).1 _).trans rfl
      have c1 : wr.cell? ⟨w.heap.size + 1 + 1 + 1 + 1 + 1 + 1 + 1 + 1 + 1, 7, none⟩ = some (.slice (some ⟨w.heap.size + 1 + 1, 0, none⟩) 1 1) := ((own_cells h9).1 _).trans rfl
      have c2 : wr.cell? ⟨w.heap.size + 1 + 1 + 1 + 1 + 1 + 1 + 1 + 1 + 1, 8, none⟩ = some (.bool false) := ((own_cells h9).1 _).trans rfl
      have c3 : wr.cell? ⟨w.heap.size + 1 + 1 + 1 + 1 + 1 + 1 + 1 + 1 + 1, 9, none⟩ = some (.bool true) := ((own_cells h9).1 _).trans rfl
      have c4 : wr.cell? ⟨w.heap.size + 1 + 1 + 1 + 1 + 1 + 1 + 1 + 1 + 1, 10, none⟩ = some (.bool false) := ((own_cells h9).1 _).trans rfl
      have c5 : wr.cell? ⟨w.heap.size + 1 + 1 + 1 + 1 + 1 + 1 + 1 + 1 + 1, 11, none⟩ = some (.bool true) := ((own_cells h9).1 _).trans rfl
      have hX := own_new wr (.cells #[.int .i64 2, .slice (some ⟨w.heap.size + 1 + 1, 0, none⟩) 1 1, .bool false, .bool true, .bool false, .bool true] 90)
      have hB := (Below.refl wr.heap.size wr).alloc (Nat.le_refl _) (.cells #[.int .i64 2, .slice (some ⟨w.heap.size + 1 + 1, 0, none⟩) 1 1, .bool false, .bool true, .bool false, .bool true] 90)
      have hK := own_below hB h2
      have hR := own_below hB h0
      have tX := tt.trans (hB.mono zt)
      have HS' := hid (HS.out.below hB)
      clear h0 h1 h2 h3 h4 h5 h6 h7 h8 h9
      cases hq : ((2 : Int) == kind)
      · clear hK hR
        go_wp2_with fail
        go_roundw
        case rel =>
          refine ⟨2, by go_num, by omega, fun j y hj hy => ?_, HS'.out, tX⟩
          rcases Nat.lt_succ_iff_lt_or_eq.1 hj with h | h
          · exact HP.out j y h hy
          · subst h; cases hy; exact hq
        case measure => simp [intOf]
      · obtain rfl : kind = 2 := by simpa using (eq_of_beq hq).symm
        obtain ⟨cR, fR⟩ := own_cells hR
        have zR := own_lt hR
        have hE := own_set (own_set (own_set (own_set (own_set (own_set hR 0 (.int .i64 2)) 1 (.slice (some ⟨w.heap.size + 1 + 1, 0, none⟩) 1 1)) 2 (.bool false)) 3 (.bool true)) 4 (.bool false)) 5 (.bool true)
        have hK' := own_set_ne (own_set_ne (own_set_ne (own_set_ne (own_set_ne (own_set_ne (hK) (p := ⟨w.heap.size, 0, none⟩) (by simp <;> omega) (.int .i64 2)) (p := ⟨w.heap.size, 1, none⟩) (by simp <;> omega) (.slice (some ⟨w.heap.size + 1 + 1, 0, none⟩) 1 1)) (p := ⟨w.heap.size, 2, none⟩) (by simp <;> omega) (.bool false)) (p := ⟨w.heap.size, 3, none⟩) (by simp <;> omega) (.bool true)) (p := ⟨w.heap.size, 4, none⟩) (by simp <;> omega) (.bool false)) (p := ⟨w.heap.size, 5, none⟩) (by simp <;> omega) (.bool true)
        have tE := ((((((tX).setCell (p := ⟨w.heap.size, 0, none⟩) (by simp) (.int .i64 2)).setCell (p := ⟨w.heap.size, 1, none⟩) (by simp) (.slice (some ⟨w.heap.size + 1 + 1, 0, none⟩) 1 1)).setCell (p := ⟨w.heap.size, 2, none⟩) (by simp) (.bool false)).setCell (p := ⟨w.heap.size, 3, none⟩) (by simp) (.bool true)).setCell (p := ⟨w.heap.size, 4, none⟩) (by simp) (.bool false)).setCell (p := ⟨w.heap.size, 5, none⟩) (by simp) (.bool true)
        obtain ⟨ocE, _⟩ := own_cells hE
        simp at ocE
        have HK := hid hK'
        have HT := hid tE
        have HO := hid ocE
        clear hK hK' tE ocE hE hR
        go_wp2_with fail
        have ocE := HO.out
        clear cR fR c0 c1 c2 c3 c4 c5
        refine bodyPost_ret (v := .agg #[.int .i64 2, .slice (some ⟨w.heap.size + 1 + 1, 0, none⟩) 1 1, .bool false, .bool true, .bool false, .bool true]) ?_ rfl ?_
        · simp only [results, Tryd.results46]
          go_simp
        · refine ⟨some ⟨w.heap.size + 1 + 1, 0, none⟩, [(1 : Int)], 1, rfl, rfl, ?_, HT.out⟩
          have hk0 := HK.out
          refine .inr ⟨_, 0, rfl, own_lt hk0, by simp, fun i x hx => ?_⟩
          have oc := (own_cells hk0).1
          match i, hx with
          | 0, hx => cases hx; exact (oc _).trans rfl
          | n + 1, hx => cases hx
    · have c0 : wr.cell? ⟨w.heap.size + 1 + 1 + 1 + 1 + 1 + 1 + 1 + 1 + 1, 12, none⟩ = some (.int .i64 4) := ((own_cells h9).1 _).trans rfl
      have c1 : wr.cell? ⟨w.heap.size + 1 + 1 + 1 + 1 + 1 + 1 + 1 + 1 + 1, 13, none⟩ = some (.slice (some ⟨w.heap.size + 1 + 1 + 1, 0, none⟩) 1 1) := ((own_cells h9).1 _).trans rfl
      have c2 : wr.cell? ⟨w.heap.size + 1 + 1 + 1 + 1 + 1 + 1 + 1 + 1 + 1, 14, none⟩ = some (.bool true) := ((own_cells h9).1 _).trans rfl
      have c3 : wr.cell? ⟨w.heap.size + 1 + 1 + 1 + 1 + 1 + 1 + 1 + 1 + 1, 15, none⟩ = some (.bool false) := ((own_cells h9).1 _).trans rfl
      have c4 : wr.cell? ⟨w.heap.size + 1 + 1 + 1 + 1 + 1 + 1 + 1 + 1 + 1, 16, none⟩ = some (.bool true) := ((own_cells h9).1 _).trans rfl
      have c5 : wr.cell? ⟨w.heap.size + 1 + 1 + 1 + 1 + 1 + 1 + 1 + 1 + 1, 17, none⟩ = some (.bool false) := ((own_cells h9).1 _).trans rfl
      have hX := own_new wr (.cells #[.int .i64 4, .slice (some ⟨w.heap.size + 1 + 1 + 1, 0, none⟩) 1 1, .bool true, .bool false, .bool true, .bool false] 90)
      have hB := (Below.refl wr.heap.size wr).alloc (Nat.le_refl _) (.cells #[.int .i64 4, .slice (some ⟨w.heap.size + 1 + 1 + 1, 0, none⟩) 1 1, .bool true, .bool false, .bool true, .bool false] 90)
      have hK := own_below hB h3
      have hR := own_below hB h0
      have tX := tt.trans (hB.mono zt)
      have HS' := hid (HS.out.below hB)
      clear h0 h1 h2 h3 h4 h5 h6 h7 h8 h9
      cases hq : ((4 : Int) == kind)
      · clear hK hR
        go_wp2_with fail
        go_roundw
        case rel =>
          refine ⟨3, by go_num, by omega, fun j y hj hy => ?_, HS'.out, tX⟩
          rcases Nat.lt_succ_iff_lt_or_eq.1 hj with h | h
          · exact HP.out j y h hy
          · subst h; cases hy; exact hq
        case measure => simp [intOf]
      · obtain rfl : kind = 4 := by simpa using (eq_of_beq hq).symm
        obtain ⟨cR, fR⟩ := own_cells hR
        have zR := own_lt hR
        have hE := own_set (own_set (own_set (own_set (own_set (own_set hR 0 (.int .i64 4)) 1 (.slice (some ⟨w.heap.size + 1 + 1 + 1, 0, none⟩) 1 1)) 2 (.bool true)) 3 (.bool false)) 4 (.bool true)) 5 (.bool false)
        have hK' := own_set_ne (own_set_ne (own_set_ne (own_set_ne (own_set_ne (own_set_ne (hK) (p := ⟨w.heap.size, 0, none⟩) (by simp <;> omega) (.int .i64 4)) (p := ⟨w.heap.size, 1, none⟩) (by simp <;> omega) (.slice (some ⟨w.heap.size + 1 + 1 + 1, 0, none⟩) 1 1)) (p := ⟨w.heap.size, 2, none⟩) (by simp <;> omega) (.bool true)) (p := ⟨w.heap.size, 3, none⟩) (by simp <;> omega) (.bool false)) (p := ⟨w.heap.size, 4, none⟩) (by simp <;> omega) (.bool true)) (p := ⟨w.heap.size, 5, none⟩) (by simp <;> omega) (.bool false)
        have tE := ((((((tX).setCell (p := ⟨w.heap.size, 0, none⟩) (by simp) (.int .i64 4)).setCell (p := ⟨w.heap.size, 1, none⟩) (by simp) (.slice (some ⟨w.heap.size + 1 + 1 + 1, 0, none⟩) 1 1)).setCell (p := ⟨w.heap.size, 2, none⟩) (by simp) (.bool true)).setCell (p := ⟨w.heap.size, 3, none⟩) (by simp) (.bool false)).setCell (p := ⟨w.heap.size, 4, none⟩) (by simp) (.bool true)).setCell (p := ⟨w.heap.size, 5, none⟩) (by simp) (.bool false)
        obtain ⟨ocE, _⟩ := own_cells hE
        simp at ocE
        have HK := hid hK'
        have HT := hid tE
        have HO := hid ocE
        clear hK hK' tE ocE hE hR
        go_wp2_with fail
        have ocE := HO.out
        clear cR fR c0 c1 c2 c3 c4 c5
        refine bodyPost_ret (v := .agg #[.int .i64 4, .slice (some ⟨w.heap.size + 1 + 1 + 1, 0, none⟩) 1 1, .bool true, .bool false, .bool true, .bool false]) ?_ rfl ?_
        · simp only [results, Tryd.results46]
          go_simp
        · refine ⟨some ⟨w.heap.size + 1 + 1 + 1, 0, none⟩, [(2 : Int)], 1, rfl, rfl, ?_, HT.out⟩
          have hk0 := HK.out
          refine .inr ⟨_, 0, rfl, own_lt hk0, by simp, fun i x hx => ?_⟩
          have oc := (own_cells hk0).1
          match i, hx with
          | 0, hx => cases hx; exact (oc _).trans rfl
          | n + 1, hx => cases hx
    · have c0 : wr.cell? ⟨w.heap.size + 1 + 1 + 1 + 1 + 1 + 1 + 1 + 1 + 1, 18, none⟩ = some (.int .i64 5) := ((own_cells h9).1 _).trans rfl
      have c1 : wr.cell? ⟨w.heap.size + 1 + 1 + 1 + 1 + 1 + 1 + 1 + 1 + 1, 19, none⟩ = some (.slice (some ⟨w.heap.size + 1 + 1 + 1 + 1, 0, none⟩) 1 1) := ((own_cells h9).1 _).trans rfl
      have c2 : wr.cell? ⟨w.heap.size + 1 + 1 + 1 + 1 + 1 + 1 + 1 + 1 + 1, 20, none⟩ = some (.bool false) := ((own_cells h9).1 _).trans rfl
      have c3 : wr.cell? ⟨w.heap.size + 1 + 1 + 1 + 1 + 1 + 1 + 1 + 1 + 1, 21, none⟩ = some (.bool true) := ((own_cells h9).1 _).trans rfl
      have c4 : wr.cell? ⟨w.heap.size + 1 + 1 + 1 + 1 + 1 + 1 + 1 + 1 + 1, 22, none⟩ = some (.bool false) := ((own_cells h9).1 _).trans rfl
      have c5 : wr.cell? ⟨w.heap.size + 1 + 1 + 1 + 1 + 1 + 1 + 1 + 1 + 1, 23, none⟩ = some (.bool true) := ((own_cells h9).1 _).trans rfl
      have hX := own_new wr (.cells #[.int .i64 5, .slice (some ⟨w.heap.size + 1 + 1 + 1 + 1, 0, none⟩) 1 1, .bool false, .bool true, .bool false, .bool true] 90)
      have hB := (Below.refl wr.heap.size wr).alloc (Nat.le_refl _) (.cells #[.int .i64 5, .slice (some ⟨w.heap.size + 1 + 1 + 1 + 1, 0, none⟩) 1 1, .bool false, .bool true, .bool false, .bool true] 90)
      have hK := own_below hB h4
      have hR := own_below hB h0
      have tX := tt.trans (hB.mono zt)
      have HS' := hid (HS.out.below hB)
      clear h0 h1 h2 h3 h4 h5 h6 h7 h8 h9
      cases hq : ((5 : Int) == kind)
      · clear hK hR
        go_wp2_with fail
        go_roundw
        case rel =>
          refine ⟨4, by go_num, by omega, fun j y hj hy => ?_, HS'.out, tX⟩
          rcases Nat.lt_succ_iff_lt_or_eq.1 hj with h | h
          · exact HP.out j y h hy
          · subst h; cases hy; exact hq
        case measure => simp [intOf]
      · obtain rfl : kind = 5 := by simpa using (eq_of_beq hq).symm
        obtain ⟨cR, fR⟩ := own_cells hR
        have zR := own_lt hR
        have hE := own_set (own_set (own_set (own_set (own_set (own_set hR 0 (.int .i64 5)) 1 (.slice (some ⟨w.heap.size + 1 + 1 + 1 + 1, 0, none⟩) 1 1)) 2 (.bool false)) 3 (.bool true)) 4 (.bool false)) 5 (.bool true)
        have hK' := own_set_ne (own_set_ne (own_set_ne (own_set_ne (own_set_ne (own_set_ne (hK) (p := ⟨w.heap.size, 0, none⟩) (by simp <;> omega) (.int .i64 5)) (p := ⟨w.heap.size, 1, none⟩) (by simp <;> omega) (.slice (some ⟨w.heap.size + 1 + 1 + 1 + 1, 0, none⟩) 1 1)) (p := ⟨w.heap.size, 2, none⟩) (by simp <;> omega) (.bool false)) (p := ⟨w.heap.size, 3, none⟩) (by simp <;> omega) (.bool true)) (p := ⟨w.heap.size, 4, none⟩) (by simp <;> omega) (.bool false)) (p := ⟨w.heap.size, 5, none⟩) (by simp <;> omega) (.bool true)
        have tE := ((((((tX).setCell (p := ⟨w.heap.size, 0, none⟩) (by simp) (.int .i64 5)).setCell (p := ⟨w.heap.size, 1, none⟩) (by simp) (.slice (some ⟨w.heap.size + 1 + 1 + 1 + 1, 0, none⟩) 1 1)).setCell (p := ⟨w.heap.size, 2, none⟩) (by simp) (.bool false)).setCell (p := ⟨w.heap.size, 3, none⟩) (by simp) (.bool true)).setCell (p := ⟨w.heap.size, 4, none⟩) (by simp) (.bool false)).setCell (p := ⟨w.heap.size, 5, none⟩) (by simp) (.bool true)
        obtain ⟨ocE, _⟩ := own_cells hE
        simp at ocE
        have HK := hid hK'
        have HT := hid tE
        have HO := hid ocE
        clear hK hK' tE ocE hE hR
        go_wp2_with fail
        have ocE := HO.out
        clear cR fR c0 c1 c2 c3 c4 c5
        refine bodyPost_ret (v := .agg #[.int .i64 5, .slice (some ⟨w.heap.size + 1 + 1 + 1 + 1, 0, none⟩) 1 1, .bool false, .bool true, .bool false, .bool true]) ?_ rfl ?_
        · simp only [results, Tryd.results46]
          go_simp
        · refine ⟨some ⟨w.heap.size + 1 + 1 + 1 + 1, 0, none⟩, [(2 : Int)], 1, rfl, rfl, ?_, HT.out⟩
          have hk0 := HK.out
          refine .inr ⟨_, 0, rfl, own_lt hk0, by simp, fun i x hx => ?_⟩
          have oc := (own_cells hk0).1
          match i, hx with
          | 0, hx => cases hx; exact (oc _).trans rfl
          | n + 1, hx => cases hx
    · have c0 : wr.cell? ⟨w.heap.size + 1 + 1 + 1 + 1 + 1 + 1 + 1 + 1 + 1, 24, none⟩ = some (.int .i64 6) := ((own_cells h9).1 _).trans rfl
      have c1 : wr.cell? ⟨w.heap.size + 1 + 1 + 1 + 1 + 1 + 1 + 1 + 1 + 1, 25, none⟩ = some (.slice (some ⟨w.heap.size + 1 + 1 + 1 + 1 + 1, 0, none⟩) 1 1) := ((own_cells h9).1 _).trans rfl
      have c2 : wr.cell? ⟨w.heap.size + 1 + 1 + 1 + 1 + 1 + 1 + 1 + 1 + 1, 26, none⟩ = some (.bool false) := ((own_cells h9).1 _).trans rfl
      have c3 : wr.cell? ⟨w.heap.size + 1 + 1 + 1 + 1 + 1 + 1 + 1 + 1 + 1, 27, none⟩ = some (.bool true) := ((own_cells h9).1 _).trans rfl
      have c4 : wr.cell? ⟨w.heap.size + 1 + 1 + 1 + 1 + 1 + 1 + 1 + 1 + 1, 28, none⟩ = some (.bool false) := ((own_cells h9).1 _).trans rfl
      have c5 : wr.cell? ⟨w.heap.size + 1 + 1 + 1 + 1 + 1 + 1 + 1 + 1 + 1, 29, none⟩ = some (.bool true) := ((own_cells h9).1 _).trans rfl
      have hX := own_new wr (.cells #[.int .i64 6, .slice (some ⟨w.heap.size + 1 + 1 + 1 + 1 + 1, 0, none⟩) 1 1, .bool false, .bool true, .bool false, .bool true] 90)
      have hB := (Below.refl wr.heap.size wr).alloc (Nat.le_refl _) (.cells #[.int .i64 6, .slice (some ⟨w.heap.size + 1 + 1 + 1 + 1 + 1, 0, none⟩) 1 1, .bool false, .bool true, .bool false, .bool true] 90)
      have hK := own_below hB h5
      have hR := own_below hB h0
      have tX := tt.trans (hB.mono zt)
      have HS' := hid (HS.out.below hB)
      clear h0 h1 h2 h3 h4 h5 h6 h7 h8 h9
      cases hq : ((6 : Int) == kind)
      · clear hK hR
        go_wp2_with fail
        go_roundw
        case rel =>
          refine ⟨5, by go_num, by omega, fun j y hj hy => ?_, HS'.out, tX⟩
          rcases Nat.lt_succ_iff_lt_or_eq.1 hj with h | h
          · exact HP.out j y h hy
          · subst h; cases hy; exact hq
        case measure => simp [intOf]
      · obtain rfl : kind = 6 := by simpa using (eq_of_beq hq).symm
        obtain ⟨cR, fR⟩ := own_cells hR
        have zR := own_lt hR
        have hE := own_set (own_set (own_set (own_set (own_set (own_set hR 0 (.int .i64 6)) 1 (.slice (some ⟨w.heap.size + 1 + 1 + 1 + 1 + 1, 0, none⟩) 1 1)) 2 (.bool false)) 3 (.bool true)) 4 (.bool false)) 5 (.bool true)
        have hK' := own_set_ne (own_set_ne (own_set_ne (own_set_ne (own_set_ne (own_set_ne (hK) (p := ⟨w.heap.size, 0, none⟩) (by simp <;> omega) (.int .i64 6)) (p := ⟨w.heap.size, 1, none⟩) (by simp <;> omega) (.slice (some ⟨w.heap.size + 1 + 1 + 1 + 1 + 1, 0, none⟩) 1 1)) (p := ⟨w.heap.size, 2, none⟩) (by simp <;> omega) (.bool false)) (p := ⟨w.heap.size, 3, none⟩) (by simp <;> omega) (.bool true)) (p := ⟨w.heap.size, 4, none⟩) (by simp <;> omega) (.bool false)) (p := ⟨w.heap.size, 5, none⟩) (by simp <;> omega) (.bool true)
        have tE := ((((((tX).setCell (p := ⟨w.heap.size, 0, none⟩) (by simp) (.int .i64 6)).setCell (p := ⟨w.heap.size, 1, none⟩) (by simp) (.slice (some ⟨w.heap.size + 1 + 1 + 1 + 1 + 1, 0, none⟩) 1 1)).setCell (p := ⟨w.heap.size, 2, none⟩) (by simp) (.bool false)).setCell (p := ⟨w.heap.size, 3, none⟩) (by simp) (.bool true)).setCell (p := ⟨w.heap.size, 4, none⟩) (by simp) (.bool false)).setCell (p := ⟨w.heap.size, 5, none⟩) (by simp) (.bool true)
        obtain ⟨ocE, _⟩ := own_cells hE
        simp at ocE
        have HK := hid hK'
        have HT := hid tE
        have HO := hid ocE
        clear hK hK' tE ocE hE hR
        go_wp2_with fail
        have ocE := HO.out
        clear cR fR c0 c1 c2 c3 c4 c5
        refine bodyPost_ret (v := .agg #[.int .i64 6, .slice (some ⟨w.heap.size + 1 + 1 + 1 + 1 + 1, 0, none⟩) 1 1, .bool false, .bool true, .bool false, .bool true]) ?_ rfl ?_
        · simp only [results, Tryd.results46]
          go_simp
        · refine ⟨some ⟨w.heap.size + 1 + 1 + 1 + 1 + 1, 0, none⟩, [(4 : Int)], 1, rfl, rfl, ?_, HT.out⟩
          have hk0 := HK.out
          refine .inr ⟨_, 0, rfl, own_lt hk0, by simp, fun i x hx => ?_⟩
          have oc := (own_cells hk0).1
          match i, hx with
          | 0, hx => cases hx; exact (oc _).trans rfl
          | n + 1, hx => cases hx
    · have c0 : wr.cell? ⟨w.heap.size + 1 + 1 + 1 + 1 + 1 + 1 + 1 + 1 + 1, 30, none⟩ = some (.int .i64 7) := ((own_cells h9).1 _).trans rfl
      have c1 : wr.cell? ⟨w.heap.size + 1 + 1 + 1 + 1 + 1 + 1 + 1 + 1 + 1, 31, none⟩ = some (.slice (some ⟨w.heap.size + 1 + 1 + 1 + 1 + 1 + 1, 0, none⟩) 1 1) := ((own_cells h9).1 _).trans rfl
      have c2 : wr.cell? ⟨w.heap.size + 1 + 1 + 1 + 1 + 1 + 1 + 1 + 1 + 1, 32, none⟩ = some (.bool true) := ((own_cells h9).1 _).trans rfl
      have c3 : wr.cell? ⟨w.heap.size + 1 + 1 + 1 + 1 + 1 + 1 + 1 + 1 + 1, 33, none⟩ = some (.bool true) := ((own_cells h9).1 _).trans rfl
      have c4 : wr.cell? ⟨w.heap.size + 1 + 1 + 1 + 1 + 1 + 1 + 1 + 1 + 1, 34, none⟩ = some (.bool true) := ((own_cells h9).1 _).trans rfl
      have c5 : wr.cell? ⟨w.heap.size + 1 + 1 + 1 + 1 + 1 + 1 + 1 + 1 + 1, 35, none⟩ = some (.bool true) := ((own_cells h9).1 _).trans rfl
      have hX := own_new wr (.cells #[.int .i64 7, .slice (some ⟨w.heap.size + 1 + 1 + 1 + 1 + 1 + 1, 0, none⟩) 1 1, .bool true, .bool true, .bool true, .bool true] 90)
      have hB := (Below.refl wr.heap.size wr).alloc (Nat.le_refl _) (.cells #[.int .i64 7, .slice (some ⟨w.heap.size + 1 + 1 + 1 + 1 + 1 + 1, 0, none⟩) 1 1, .bool true, .bool true, .bool true, .bool true] 90)
      have hK := own_below hB h6
      have hR := own_below hB h0
      have tX := tt.trans (hB.mono zt)
      have HS' := hid (HS.out.below hB)
      clear h0 h1 h2 h3 h4 h5 h6 h7 h8 h9
      cases hq : ((7 : Int) == kind)
      · clear hK hR
        go_wp2_with fail
        go_roundw
        case rel =>
          refine ⟨6, by go_num, by omega, fun j y hj hy => ?_, HS'.out, tX⟩
          rcases Nat.lt_succ_iff_lt_or_eq.1 hj with h | h
          · exact HP.out j y h hy
          · subst h; cases hy; exact hq
        case measure => simp [intOf]
      · obtain rfl : kind = 7 := by simpa using (eq_of_beq hq).symm
        obtain ⟨cR, fR⟩ := own_cells hR
        have zR := own_lt hR
        have hE := own_set (own_set (own_set (own_set (own_set (own_set hR 0 (.int .i64 7)) 1 (.slice (some ⟨w.heap.size + 1 + 1 + 1 + 1 + 1 + 1, 0, none⟩) 1 1)) 2 (.bool true)) 3 (.bool true)) 4 (.bool true)) 5 (.bool true)
        have hK' := own_set_ne (own_set_ne (own_set_ne (own_set_ne (own_set_ne (own_set_ne (hK) (p := ⟨w.heap.size, 0, none⟩) (by simp <;> omega) (.int .i64 7)) (p := ⟨w.heap.size, 1, none⟩) (by simp <;> omega) (.slice (some ⟨w.heap.size + 1 + 1 + 1 + 1 + 1 + 1, 0, none⟩) 1 1)) (p := ⟨w.heap.size, 2, none⟩) (by simp <;> omega) (.bool true)) (p := ⟨w.heap.size, 3, none⟩) (by simp <;> omega) (.bool true)) (p := ⟨w.heap.size, 4, none⟩) (by simp <;> omega) (.bool true)) (p := ⟨w.heap.size, 5, none⟩) (by simp <;> omega) (.bool true)
        have tE := ((((((tX).setCell (p := ⟨w.heap.size, 0, none⟩) (by simp) (.int .i64 7)).setCell (p := ⟨w.heap.size, 1, none⟩) (by simp) (.slice (some ⟨w.heap.size + 1 + 1 + 1 + 1 + 1 + 1, 0, none⟩) 1 1)).setCell (p := ⟨w.heap.size, 2, none⟩) (by simp) (.bool true)).setCell (p := ⟨w.heap.size, 3, none⟩) (by simp) (.bool true)).setCell (p := ⟨w.heap.size, 4, none⟩) (by simp) (.bool true)).setCell (p := ⟨w.heap.size, 5, none⟩) (by simp) (.bool true)
        obtain ⟨ocE, _⟩ := own_cells hE
        simp at ocE
        have HK := hid hK'
        have HT := hid tE
        have HO := hid ocE
        clear hK hK' tE ocE hE hR
        go_wp2_with fail
        have ocE := HO.out
        clear cR fR c0 c1 c2 c3 c4 c5
        refine bodyPost_ret (v := .agg #[.int .i64 7, .slice (some ⟨w.heap.size + 1 + 1 + 1 + 1 + 1 + 1, 0, none⟩) 1 1, .bool true, .bool true, .bool true, .bool true]) ?_ rfl ?_
        · simp only [results, Tryd.results46]
          go_simp
        · refine ⟨some ⟨w.heap.size + 1 + 1 + 1 + 1 + 1 + 1, 0, none⟩, [(4 : Int)], 1, rfl, rfl, ?_, HT.out⟩
          have hk0 := HK.out
          refine .inr ⟨_, 0, rfl, own_lt hk0, by simp, fun i x hx => ?_⟩
          have oc := (own_cells hk0).1
          match i, hx with
          | 0, hx => cases hx; exact (oc _).trans rfl
          | n + 1, hx => cases hx
    · have c0 : wr.cell? ⟨w.heap.size + 1 + 1 + 1 + 1 + 1 + 1 + 1 + 1 + 1, 36, none⟩ = some (.int .i64 8) := ((own_cells h9).1 _).trans rfl
      have c1 : wr.cell? ⟨w.heap.size + 1 + 1 + 1 + 1 + 1 + 1 + 1 + 1 + 1, 37, none⟩ = some (.slice (some ⟨w.heap.size + 1 + 1 + 1 + 1 + 1 + 1 + 1, 0, none⟩) 3 3) := ((own_cells h9).1 _).trans rfl
      have c2 : wr.cell? ⟨w.heap.size + 1 + 1 + 1 + 1 + 1 + 1 + 1 + 1 + 1, 38, none⟩ = some (.bool false) := ((own_cells h9).1 _).trans rfl
      have c3 : wr.cell? ⟨w.heap.size + 1 + 1 + 1 + 1 + 1 + 1 + 1 + 1 + 1, 39, none⟩ = some (.bool true) := ((own_cells h9).1 _).trans rfl
      have c4 : wr.cell? ⟨w.heap.size + 1 + 1 + 1 + 1 + 1 + 1 + 1 + 1 + 1, 40, none⟩ = some (.bool false) := ((own_cells h9).1 _).trans rfl
      have c5 : wr.cell? ⟨w.heap.size + 1 + 1 + 1 + 1 + 1 + 1 + 1 + 1 + 1, 41, none⟩ = some (.bool true) := ((own_cells h9).1 _).trans rfl
      have hX := own_new wr (.cells #[.int .i64 8, .slice (some ⟨w.heap.size + 1 + 1 + 1 + 1 + 1 + 1 + 1, 0, none⟩) 3 3, .bool false, .bool true, .bool false, .bool true] 90)
      have hB := (Below.refl wr.heap.size wr).alloc (Nat.le_refl _) (.cells #[.int .i64 8, .slice (some ⟨w.heap.size + 1 + 1 + 1 + 1 + 1 + 1 + 1, 0, none⟩) 3 3, .bool false, .bool true, .bool false, .bool true] 90)
      have hK := own_below hB h7
      have hR := own_below hB h0
      have tX := tt.trans (hB.mono zt)
      have HS' := hid (HS.out.below hB)
      clear h0 h1 h2 h3 h4 h5 h6 h7 h8 h9
      cases hq : ((8 : Int) == kind)
      · clear hK hR
        go_wp2_with fail
        go_roundw
        case rel =>
          refine ⟨7, by go_num, by omega, fun j y hj hy => ?_, HS'.out, tX⟩
          rcases Nat.lt_succ_iff_lt_or_eq.1 hj with h | h
          · exact HP.out j y h hy
          · subst h; cases hy; exact hq
        case measure => simp [intOf]
      · obtain rfl : kind = 8 := by simpa using (eq_of_beq hq).symm
        obtain ⟨cR, fR⟩ := own_cells hR
        have zR := own_lt hR
        have hE := own_set (own_set (own_set (own_set (own_set (own_set hR 0 (.int .i64 8)) 1 (.slice (some ⟨w.heap.size + 1 + 1 + 1 + 1 + 1 + 1 + 1, 0, none⟩) 3 3)) 2 (.bool false)) 3 (.bool true)) 4 (.bool false)) 5 (.bool true)
        have hK' := own_set_ne (own_set_ne (own_set_ne (own_set_ne (own_set_ne (own_set_ne (hK) (p := ⟨w.heap.size, 0, none⟩) (by simp <;> omega) (.int .i64 8)) (p := ⟨w.heap.size, 1, none⟩) (by simp <;> omega) (.slice (some ⟨w.heap.size + 1 + 1 + 1 + 1 + 1 + 1 + 1, 0, none⟩) 3 3)) (p := ⟨w.heap.size, 2, none⟩) (by simp <;> omega) (.bool false)) (p := ⟨w.heap.size, 3, none⟩) (by simp <;> omega) (.bool true)) (p := ⟨w.heap.size, 4, none⟩) (by simp <;> omega) (.bool false)) (p := ⟨w.heap.size, 5, none⟩) (by simp <;> omega) (.bool true)
        have tE := ((((((tX).setCell (p := ⟨w.heap.size, 0, none⟩) (by simp) (.int .i64 8)).setCell (p := ⟨w.heap.size, 1, none⟩) (by simp) (.slice (some ⟨w.heap.size + 1 + 1 + 1 + 1 + 1 + 1 + 1, 0, none⟩) 3 3)).setCell (p := ⟨w.heap.size, 2, none⟩) (by simp) (.bool false)).setCell (p := ⟨w.heap.size, 3, none⟩) (by simp) (.bool true)).setCell (p := ⟨w.heap.size, 4, none⟩) (by simp) (.bool false)).setCell (p := ⟨w.heap.size, 5, none⟩) (by simp) (.bool true)
        obtain ⟨ocE, _⟩ := own_cells hE
        simp at ocE
        have HK := hid hK'
        have HT := hid tE
        have HO := hid ocE
        clear hK hK' tE ocE hE hR
        go_wp2_with fail
        have ocE := HO.out
        clear cR fR c0 c1 c2 c3 c4 c5
        refine bodyPost_ret (v := .agg #[.int .i64 8, .slice (some ⟨w.heap.size + 1 + 1 + 1 + 1 + 1 + 1 + 1, 0, none⟩) 3 3, .bool false, .bool true, .bool false, .bool true]) ?_ rfl ?_
        · simp only [results, Tryd.results46]
          go_simp
        · refine ⟨some ⟨w.heap.size + 1 + 1 + 1 + 1 + 1 + 1 + 1, 0, none⟩, [(1 : Int), (2 : Int), (4 : Int)], 3, rfl, rfl, ?_, HT.out⟩
          have hk0 := HK.out
          refine .inr ⟨_, 0, rfl, own_lt hk0, by simp, fun i x hx => ?_⟩
          have oc := (own_cells hk0).1
          match i, hx with
          | 0, hx => cases hx; exact (oc _).trans rfl
          | 1, hx => cases hx; exact (oc _).trans rfl
          | 2, hx => cases hx; exact (oc _).trans rfl
          | n + 3, hx => cases hx
    · have c0 : wr.cell? ⟨w.heap.size + 1 + 1 + 1 + 1 + 1 + 1 + 1 + 1 + 1, 42, none⟩ = some (.int .i64 9) := ((own_cells h9).1 _).trans rfl
      have c1 : wr.cell? ⟨w.heap.size + 1 + 1 + 1 + 1 + 1 + 1 + 1 + 1 + 1, 43, none⟩ = some (.slice (some ⟨w.heap.size + 1 + 1 + 1 + 1 + 1 + 1 + 1 + 1, 0, none⟩) 1 1) := ((own_cells h9).1 _).trans rfl
      have c2 : wr.cell? ⟨w.heap.size + 1 + 1 + 1 + 1 + 1 + 1 + 1 + 1 + 1, 44, none⟩ = some (.bool false) := ((own_cells h9).1 _).trans rfl
      have c3 : wr.cell? ⟨w.heap.size + 1 + 1 + 1 + 1 + 1 + 1 + 1 + 1 + 1, 45, none⟩ = some (.bool true) := ((own_cells h9).1 _).trans rfl
      have c4 : wr.cell? ⟨w.heap.size + 1 + 1 + 1 + 1 + 1 + 1 + 1 + 1 + 1, 46, none⟩ = some (.bool false) := ((own_cells h9).1 _).trans rfl
      have c5 : wr.cell? ⟨w.heap.size + 1 + 1 + 1 + 1 + 1 + 1 + 1 + 1 + 1, 47, none⟩ = some (.bool true) := ((own_cells h9).1 _).trans rfl
      have hX := own_new wr (.cells #[.int .i64 9, .slice (some ⟨w.heap.size + 1 + 1 + 1 + 1 + 1 + 1 + 1 + 1, 0, none⟩) 1 1, .bool false, .bool true, .bool false, .bool true] 90)
      have hB := (Below.refl wr.heap.size wr).alloc (Nat.le_refl _) (.cells #[.int .i64 9, .slice (some ⟨w.heap.size + 1 + 1 + 1 + 1 + 1 + 1 + 1 + 1, 0, none⟩) 1 1, .bool false, .bool true, .bool false, .bool true] 90)
      have hK := own_below hB h8
      have hR := own_below hB h0
      have tX := tt.trans (hB.mono zt)
      have HS' := hid (HS.out.below hB)
      clear h0 h1 h2 h3 h4 h5 h6 h7 h8 h9
      cases hq : ((9 : Int) == kind)
      · clear hK hR
        go_wp2_with fail
        go_roundw
        case rel =>
          refine ⟨8, by go_num, by omega, fun j y hj hy => ?_, HS'.out, tX⟩
          rcases Nat.lt_succ_iff_lt_or_eq.1 hj with h | h
          · exact HP.out j y h hy
          · subst h; cases hy; exact hq
        case measure => simp [intOf]
      · obtain rfl : kind = 9 := by simpa using (eq_of_beq hq).symm
        obtain ⟨cR, fR⟩ := own_cells hR
        have zR := own_lt hR
        have hE := own_set (own_set (own_set (own_set (own_set (own_set hR 0 (.int .i64 9)) 1 (.slice (some ⟨w.heap.size + 1 + 1 + 1 + 1 + 1 + 1 + 1 + 1, 0, none⟩) 1 1)) 2 (.bool false)) 3 (.bool true)) 4 (.bool false)) 5 (.bool true)
        have hK' := own_set_ne (own_set_ne (own_set_ne (own_set_ne (own_set_ne (own_set_ne (hK) (p := ⟨w.heap.size, 0, none⟩) (by simp <;> omega) (.int .i64 9)) (p := ⟨w.heap.size, 1, none⟩) (by simp <;> omega) (.slice (some ⟨w.heap.size + 1 + 1 + 1 + 1 + 1 + 1 + 1 + 1, 0, none⟩) 1 1)) (p := ⟨w.heap.size, 2, none⟩) (by simp <;> omega) (.bool false)) (p := ⟨w.heap.size, 3, none⟩) (by simp <;> omega) (.bool true)) (p := ⟨w.heap.size, 4, none⟩) (by simp <;> omega) (.bool false)) (p := ⟨w.heap.size, 5, none⟩) (by simp <;> omega) (.bool true)
        have tE := ((((((tX).setCell (p := ⟨w.heap.size, 0, none⟩) (by simp) (.int .i64 9)).setCell (p := ⟨w.heap.size, 1, none⟩) (by simp) (.slice (some ⟨w.heap.size + 1 + 1 + 1 + 1 + 1 + 1 + 1 + 1, 0, none⟩) 1 1)).setCell (p := ⟨w.heap.size, 2, none⟩) (by simp) (.bool false)).setCell (p := ⟨w.heap.size, 3, none⟩) (by simp) (.bool true)).setCell (p := ⟨w.heap.size, 4, none⟩) (by simp) (.bool false)).setCell (p := ⟨w.heap.size, 5, none⟩) (by simp) (.bool true)
        obtain ⟨ocE, _⟩ := own_cells hE
        simp at ocE
        have HK := hid hK'
        have HT := hid tE
        have HO := hid ocE
        clear hK hK' tE ocE hE hR
        go_wp2_with fail
        have ocE := HO.out
        clear cR fR c0 c1 c2 c3 c4 c5
        refine bodyPost_ret (v := .agg #[.int .i64 9, .slice (some ⟨w.heap.size + 1 + 1 + 1 + 1 + 1 + 1 + 1 + 1, 0, none⟩) 1 1, .bool false, .bool true, .bool false, .bool true]) ?_ rfl ?_
        · simp only [results, Tryd.results46]
          go_simp
        · refine ⟨some ⟨w.heap.size + 1 + 1 + 1 + 1 + 1 + 1 + 1 + 1, 0, none⟩, [(5 : Int)], 1, rfl, rfl, ?_, HT.out⟩
          have hk0 := HK.out
          refine .inr ⟨_, 0, rfl, own_lt hk0, by simp, fun i x hx => ?_⟩
          have oc := (own_cells hk0).1
          match i, hx with
          | 0, hx => cases hx; exact (oc _).trans rfl
          | n + 1, hx => cases hx
    · exfalso
      have e1 : 1 ≤ kind ∧ kind ≤ 9 := by simpa [inB] using h1k
      have e3 : ¬ kind = 3 := by simpa using h3k
      have q0 := HP.out 0 1 (by omega) rfl
      have q1 := HP.out 1 2 (by omega) rfl
      have q2 := HP.out 2 4 (by omega) rfl
      have q3 := HP.out 3 5 (by omega) rfl
      have q4 := HP.out 4 6 (by omega) rfl
      have q5 := HP.out 5 7 (by omega) rfl
      have q6 := HP.out 6 8 (by omega) rfl
      have q7 := HP.out 7 9 (by omega) rfl
      simp at q0 q1 q2 q3 q4 q5 q6 q7
      omega
end Go.Proofs.YtcgmnpppdoadhaaDoor
