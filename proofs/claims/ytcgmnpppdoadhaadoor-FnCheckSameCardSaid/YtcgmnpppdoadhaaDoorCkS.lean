/- What the reference tells of a call: contracts of l11Kind, l11Needs. No condition but that the call's kind is one. -/
import Derived.Test.YtcgmnpppdoadhaaDoorExam
namespace Go.Proofs.YtcgmnpppdoadhaaDoor
set_option maxRecDepth 100000
open Go Go.RowKit
set_option linter.unusedVariables false
set_option linter.unusedSimpArgs false

theorem kind_cases {k : Int} (h : inB k 1 9 = true) (h3 : (k == 3) = false) : k = 1 ∨ k = 2 ∨ k = 4 ∨ k = 5 ∨ k = 6 ∨ k = 7 ∨ k = 8 ∨ k = 9 := by
  have : 1 ≤ k ∧ k ≤ 9 := by simpa [inB] using h
  have : ¬ k = 3 := by simpa using h3
  omega
set_option maxHeartbeats 4000000 in
theorem l11Kind_any (k kd : Int) (w : World) (h : inB k 1 9 = true) (h3 : (k == 3) = false) :
    Calls Tryd.prog 40 #[.int .i64 k, .int .i64 kd] w fun e w' => e = .returned (.bool ((needKinds k).any (· == kd))) ∧ Below w.heap.size w w' := by
  rcases kind_cases h h3 with rfl | rfl | rfl | rfl | rfl | rfl | rfl | rfl
  case inr.inr.inr.inr.inr.inr.inl =>
    cases e1 : (kd == 1) <;> cases e2 : (kd == 2) <;> cases e4 : (kd == 4)
    all_goals
      have q : (needKinds 8).any (· == kd) = ((kd == 1) || ((kd == 2) || (kd == 4))) := by
        rw [show needKinds 8 = [1, 2, 4] from rfl]
        simp only [List.any_cons, List.any_nil, Bool.or_false]
        rw [Bool.beq_comm (a := (1 : Int)), Bool.beq_comm (a := (2 : Int)), Bool.beq_comm (a := (4 : Int))]
      rw [e1, e2, e4] at q
      rw [q]
      clear q
      go_enter Tryd.func40, Tryd.ntmps40
      go_wp2_with fail
      go_ret
      exact ⟨rfl, Below.refl _ _⟩
  case inl =>
    have q : (needKinds 1).any (· == kd) = (kd == 1) := by rw [show needKinds 1 = [1] from rfl]; simp only [List.any_cons, List.any_nil, Bool.or_false]; rw [Bool.beq_comm]
    rw [q]; clear q
    go_enter Tryd.func40, Tryd.ntmps40
    go_wp2_with fail
    go_ret
    exact ⟨rfl, Below.refl _ _⟩
  case inr.inl =>
    have q : (needKinds 2).any (· == kd) = (kd == 1) := by rw [show needKinds 2 = [1] from rfl]; simp only [List.any_cons, List.any_nil, Bool.or_false]; rw [Bool.beq_comm]
    rw [q]; clear q
    go_enter Tryd.func40, Tryd.ntmps40
    go_wp2_with fail
    go_ret
    exact ⟨rfl, Below.refl _ _⟩
  case inr.inr.inl =>
    have q : (needKinds 4).any (· == kd) = (kd == 2) := by rw [show needKinds 4 = [2] from rfl]; simp only [List.any_cons, List.any_nil, Bool.or_false]; rw [Bool.beq_comm]
    rw [q]; clear q
    go_enter Tryd.func40, Tryd.ntmps40
    go_wp2_with fail
    go_ret
    exact ⟨rfl, Below.refl _ _⟩
  case inr.inr.inr.inl =>
    have q : (needKinds 5).any (· == kd) = (kd == 2) := by rw [show needKinds 5 = [2] from rfl]; simp only [List.any_cons, List.any_nil, Bool.or_false]; rw [Bool.beq_comm]
    rw [q]; clear q
    go_enter Tryd.func40, Tryd.ntmps40
    go_wp2_with fail
    go_ret
    exact ⟨rfl, Below.refl _ _⟩
  case inr.inr.inr.inr.inl =>
    have q : (needKinds 6).any (· == kd) = (kd == 4) := by rw [show needKinds 6 = [4] from rfl]; simp only [List.any_cons, List.any_nil, Bool.or_false]; rw [Bool.beq_comm]
    rw [q]; clear q
    go_enter Tryd.func40, Tryd.ntmps40
    go_wp2_with fail
    go_ret
    exact ⟨rfl, Below.refl _ _⟩
  case inr.inr.inr.inr.inr.inl =>
    have q : (needKinds 7).any (· == kd) = (kd == 4) := by rw [show needKinds 7 = [4] from rfl]; simp only [List.any_cons, List.any_nil, Bool.or_false]; rw [Bool.beq_comm]
    rw [q]; clear q
    go_enter Tryd.func40, Tryd.ntmps40
    go_wp2_with fail
    go_ret
    exact ⟨rfl, Below.refl _ _⟩
  case inr.inr.inr.inr.inr.inr.inr =>
    have q : (needKinds 9).any (· == kd) = (kd == 5) := by rw [show needKinds 9 = [5] from rfl]; simp only [List.any_cons, List.any_nil, Bool.or_false]; rw [Bool.beq_comm]
    rw [q]; clear q
    go_enter Tryd.func40, Tryd.ntmps40
    go_wp2_with fail
    go_ret
    exact ⟨rfl, Below.refl _ _⟩
theorem l11Needs_any (k : Int) (w : World) (h : inB k 1 9 = true) (h3 : (k == 3) = false) :
    Calls Tryd.prog 51 #[.int .i64 k] w fun e w' => ∃ B : Nat, e = .returned (.slice (some ⟨B, 0, none⟩) 4 4) ∧ w.heap.size ≤ B ∧ w'.heap[B]? = some (.cells #[.bool (needRd k), .bool (needWr k), .bool (needRd k), .bool (needWr k)] 4 (0, 0)) ∧ Below w.heap.size w w' := by
  rcases kind_cases h h3 with rfl | rfl | rfl | rfl | rfl | rfl | rfl | rfl
  all_goals
    go_enter Tryd.func51, Tryd.ntmps51
    go_wp2_with fail
    go_ret
    exact ⟨_, rfl, Nat.le_refl _, own_new _ _, (Below.refl _ _).alloc (Nat.le_refl _) _⟩
end Go.Proofs.YtcgmnpppdoadhaaDoor
