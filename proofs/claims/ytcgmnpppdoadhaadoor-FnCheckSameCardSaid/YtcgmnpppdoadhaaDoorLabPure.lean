/- The plain laws of labels: flow, join and meet on two marks each. No program in sight, no condition but that the labels are such. -/
import Derived.Test.YtcgmnpppdoadhaaDoorBase
namespace Go.Proofs.YtcgmnpppdoadhaaDoor
set_option maxRecDepth 100000
set_option linter.unusedVariables false

theorem flowB_eq {s1 v1 s2 v2 : Int} (h1 : lblOk s1 v1 = true) (h2 : lblOk s2 v2 = true) : flowB s1 v1 s2 v2 = (subB s1 s2 && subB v2 v1) := by simp [flowB, h1, h2]
theorem joinS_eq {s1 v1 s2 v2 : Int} (h1 : lblOk s1 v1 = true) (h2 : lblOk s2 v2 = true) : joinS s1 v1 s2 v2 = orI s1 s2 := by simp [joinS, h1, h2]
theorem joinV_eq {s1 v1 s2 v2 : Int} (h1 : lblOk s1 v1 = true) (h2 : lblOk s2 v2 = true) : joinV s1 v1 s2 v2 = andI v1 v2 := by simp [joinV, h1, h2]
theorem meetS_eq {s1 v1 s2 v2 : Int} (h1 : lblOk s1 v1 = true) (h2 : lblOk s2 v2 = true) : meetS s1 v1 s2 v2 = andI s1 s2 := by simp [meetS, h1, h2]
theorem meetV_eq {s1 v1 s2 v2 : Int} (h1 : lblOk s1 v1 = true) (h2 : lblOk s2 v2 = true) : meetV s1 v1 s2 v2 = orI v1 v2 := by simp [meetV, h1, h2]
theorem lblOk_mk {s v : Int} (h : 0 ≤ s ∧ s ≤ 3 ∧ 0 ≤ v ∧ v ≤ 3) : lblOk s v = true := by simp [lblOk, inB]; omega
theorem join_ok {s1 v1 s2 v2 : Int} (h1 : lblOk s1 v1 = true) (h2 : lblOk s2 v2 = true) : lblOk (joinS s1 v1 s2 v2) (joinV s1 v1 s2 v2) = true := by
  rw [joinS_eq h1 h2, joinV_eq h1 h2]
  obtain ⟨a, b, c, d⟩ := lblOk_bd h1
  obtain ⟨a', b', c', d'⟩ := lblOk_bd h2
  have := orI_bd a b a' b'
  have := andI_bd c d c' d'
  exact lblOk_mk (by omega)
theorem meet_ok {s1 v1 s2 v2 : Int} (h1 : lblOk s1 v1 = true) (h2 : lblOk s2 v2 = true) : lblOk (meetS s1 v1 s2 v2) (meetV s1 v1 s2 v2) = true := by
  rw [meetS_eq h1 h2, meetV_eq h1 h2]
  obtain ⟨a, b, c, d⟩ := lblOk_bd h1
  obtain ⟨a', b', c', d'⟩ := lblOk_bd h2
  have := andI_bd a b a' b'
  have := orI_bd c d c' d'
  exact lblOk_mk (by omega)
/-- What holds of all sets of marks, one, two or three of them. -/
theorem all1 (p : Int → Bool) (h : p 0 = true ∧ p 1 = true ∧ p 2 = true ∧ p 3 = true) {a : Int} (h0 : 0 ≤ a) (h1 : a ≤ 3) : p a = true := by
  rcases four h0 h1 with rfl | rfl | rfl | rfl
  · exact h.1
  · exact h.2.1
  · exact h.2.2.1
  · exact h.2.2.2
theorem sub_refl {a : Int} : subB a a = true := by simp [subB]
theorem sub_trans {a b c : Int} (h1 : subB a b = true) (h2 : subB b c = true) : subB a c = true := by simp [subB] at *; omega
theorem sub_antisymm {a b : Int} (h0 : 0 ≤ a) (h1 : 0 ≤ b) (h2 : subB a b = true) (h3 : subB b a = true) : a = b := by simp [subB] at *; omega
theorem or_sub {a b c : Int} (h0 : 0 ≤ a) (h1 : a ≤ 3) (h2 : 0 ≤ b) (h3 : b ≤ 3) : subB (orI a b) c = (subB a c && subB b c) := by
  rw [Bool.eq_iff_iff]
  simp [subB, orI]
  omega
theorem sub_and {a b c : Int} (h0 : 0 ≤ a) (h1 : a ≤ 3) (h2 : 0 ≤ b) (h3 : b ≤ 3) : subB c (andI a b) = (subB c a && subB c b) := by
  rw [Bool.eq_iff_iff]
  simp [subB, andI]
  omega
theorem or_comm (a b : Int) : orI a b = orI b a := by unfold orI; omega
theorem and_comm' (a b : Int) : andI a b = andI b a := by unfold andI; omega
theorem or_self {a : Int} (h0 : 0 ≤ a) : orI a a = a := by unfold orI; omega
theorem and_self' {a : Int} (h0 : 0 ≤ a) : andI a a = a := by unfold andI; omega
theorem or_assoc' {a b c : Int} (h0 : 0 ≤ a) (h1 : a ≤ 3) (h2 : 0 ≤ b) (h3 : b ≤ 3) (h4 : 0 ≤ c) (h5 : c ≤ 3) : orI (orI a b) c = orI a (orI b c) := by unfold orI; omega
theorem and_assoc' {a b c : Int} (h0 : 0 ≤ a) (h1 : a ≤ 3) (h2 : 0 ≤ b) (h3 : b ≤ 3) (h4 : 0 ≤ c) (h5 : c ≤ 3) : andI (andI a b) c = andI a (andI b c) := by unfold andI; omega
theorem sub_or_left {a b : Int} (h0 : 0 ≤ a) (h1 : a ≤ 3) (h2 : 0 ≤ b) (h3 : b ≤ 3) : subB a (orI a b) = true := by simp [subB, orI]; omega
theorem and_sub_left {a b : Int} (h0 : 0 ≤ a) (h1 : a ≤ 3) (h2 : 0 ≤ b) (h3 : b ≤ 3) : subB (andI a b) a = true := by simp [subB, andI]; omega
theorem sub_iff_or {a b : Int} (h0 : 0 ≤ a) (h1 : a ≤ 3) (h2 : 0 ≤ b) (h3 : b ≤ 3) : subB a b = decide (orI a b = b) := by
  rcases four h0 h1 with rfl | rfl | rfl | rfl <;> rcases four h2 h3 with rfl | rfl | rfl | rfl <;> decide
theorem sub_iff_and {a b : Int} (h0 : 0 ≤ a) (h1 : a ≤ 3) (h2 : 0 ≤ b) (h3 : b ≤ 3) : subB a b = decide (andI a b = a) := by
  rcases four h0 h1 with rfl | rfl | rfl | rfl <;> rcases four h2 h3 with rfl | rfl | rfl | rfl <;> decide
theorem or_and {a b : Int} (h0 : 0 ≤ a) (h1 : a ≤ 3) (h2 : 0 ≤ b) (h3 : b ≤ 3) : andI a (orI a b) = a := by unfold andI orI; omega
theorem and_or {a b : Int} (h0 : 0 ≤ a) (h1 : a ≤ 3) (h2 : 0 ≤ b) (h3 : b ≤ 3) : orI a (andI a b) = a := by unfold andI orI; omega
theorem flow_least {s v : Int} (h : lblOk s v = true) : flowB 0 3 s v = true := by
  obtain ⟨a, b, c, d⟩ := lblOk_bd h
  rw [flowB_eq (lblOk_mk (by omega)) h]; simp [subB]; omega
theorem flow_most {s v : Int} (h : lblOk s v = true) : flowB s v 3 0 = true := by
  obtain ⟨a, b, c, d⟩ := lblOk_bd h
  rw [flowB_eq h (lblOk_mk (by omega))]; simp [subB]; omega
theorem flow_low {s v : Int} (h : lblOk s v = true) (hf : flowB s v 0 3 = true) : s = 0 ∧ v = 3 := by
  obtain ⟨a, b, c, d⟩ := lblOk_bd h
  rw [flowB_eq h (lblOk_mk (by omega))] at hf; simp [subB] at hf; omega
theorem flow_refl {s v : Int} (h : lblOk s v = true) : flowB s v s v = true := by rw [flowB_eq h h]; simp [sub_refl]
theorem flow_trans {s1 v1 s2 v2 s3 v3 : Int} (h1 : lblOk s1 v1 = true) (h2 : lblOk s2 v2 = true) (h3 : lblOk s3 v3 = true) (hf : flowB s1 v1 s2 v2 = true) (hg : flowB s2 v2 s3 v3 = true) : flowB s1 v1 s3 v3 = true := by
  rw [flowB_eq h1 h2] at hf; rw [flowB_eq h2 h3] at hg; rw [flowB_eq h1 h3]
  simp only [Bool.and_eq_true] at *
  exact ⟨sub_trans hf.1 hg.1, sub_trans hg.2 hf.2⟩
theorem flow_antisymm {s1 v1 s2 v2 : Int} (h1 : lblOk s1 v1 = true) (h2 : lblOk s2 v2 = true) (hf : flowB s1 v1 s2 v2 = true) (hg : flowB s2 v2 s1 v1 = true) : s1 = s2 ∧ v1 = v2 := by
  obtain ⟨a, b, c, d⟩ := lblOk_bd h1
  obtain ⟨a', b', c', d'⟩ := lblOk_bd h2
  rw [flowB_eq h1 h2] at hf; rw [flowB_eq h2 h1] at hg
  simp only [Bool.and_eq_true] at *
  exact ⟨sub_antisymm a a' hf.1 hg.1, sub_antisymm c c' hg.2 hf.2⟩
theorem ld_ok (n : Nat) : lblOk ((n : Int) % 4) ((n : Int) / 4 % 4) = true := lblOk_mk (by omega)
theorem join_up {s1 v1 s2 v2 : Int} (h1 : lblOk s1 v1 = true) (h2 : lblOk s2 v2 = true) : flowB s1 v1 (joinS s1 v1 s2 v2) (joinV s1 v1 s2 v2) = true := by
  obtain ⟨a, b, c, d⟩ := lblOk_bd h1
  obtain ⟨a', b', c', d'⟩ := lblOk_bd h2
  rw [flowB_eq h1 (join_ok h1 h2), joinS_eq h1 h2, joinV_eq h1 h2, sub_or_left a b a' b', and_sub_left c d c' d']; rfl
theorem join_comm {s1 v1 s2 v2 : Int} (h1 : lblOk s1 v1 = true) (h2 : lblOk s2 v2 = true) : joinS s2 v2 s1 v1 = joinS s1 v1 s2 v2 ∧ joinV s2 v2 s1 v1 = joinV s1 v1 s2 v2 := by
  rw [joinS_eq h2 h1, joinV_eq h2 h1, joinS_eq h1 h2, joinV_eq h1 h2]; exact ⟨or_comm _ _, and_comm' _ _⟩
theorem join_self {s v : Int} (h : lblOk s v = true) : joinS s v s v = s ∧ joinV s v s v = v := by
  obtain ⟨a, b, c, d⟩ := lblOk_bd h
  rw [joinS_eq h h, joinV_eq h h]; exact ⟨or_self a, and_self' c⟩
theorem join_flow {s1 v1 s2 v2 s3 v3 : Int} (h1 : lblOk s1 v1 = true) (h2 : lblOk s2 v2 = true) (h3 : lblOk s3 v3 = true) :
    flowB (joinS s1 v1 s2 v2) (joinV s1 v1 s2 v2) s3 v3 = (flowB s1 v1 s3 v3 && flowB s2 v2 s3 v3) := by
  obtain ⟨a, b, c, d⟩ := lblOk_bd h1
  obtain ⟨a', b', c', d'⟩ := lblOk_bd h2
  rw [flowB_eq (join_ok h1 h2) h3, flowB_eq h1 h3, flowB_eq h2 h3, joinS_eq h1 h2, joinV_eq h1 h2, or_sub a b a' b', sub_and c d c' d']
  cases subB s1 s3 <;> cases subB s2 s3 <;> cases subB v3 v1 <;> cases subB v3 v2 <;> rfl
theorem meet_down {s1 v1 s2 v2 : Int} (h1 : lblOk s1 v1 = true) (h2 : lblOk s2 v2 = true) : flowB (meetS s1 v1 s2 v2) (meetV s1 v1 s2 v2) s1 v1 = true := by
  obtain ⟨a, b, c, d⟩ := lblOk_bd h1
  obtain ⟨a', b', c', d'⟩ := lblOk_bd h2
  rw [flowB_eq (meet_ok h1 h2) h1, meetS_eq h1 h2, meetV_eq h1 h2, and_sub_left a b a' b', sub_or_left c d c' d']; rfl
theorem meet_comm {s1 v1 s2 v2 : Int} (h1 : lblOk s1 v1 = true) (h2 : lblOk s2 v2 = true) : meetS s2 v2 s1 v1 = meetS s1 v1 s2 v2 ∧ meetV s2 v2 s1 v1 = meetV s1 v1 s2 v2 := by
  rw [meetS_eq h2 h1, meetV_eq h2 h1, meetS_eq h1 h2, meetV_eq h1 h2]; exact ⟨and_comm' _ _, or_comm _ _⟩
theorem meet_flow {s1 v1 s2 v2 s3 v3 : Int} (h1 : lblOk s1 v1 = true) (h2 : lblOk s2 v2 = true) (h3 : lblOk s3 v3 = true) :
    flowB s3 v3 (meetS s1 v1 s2 v2) (meetV s1 v1 s2 v2) = (flowB s3 v3 s1 v1 && flowB s3 v3 s2 v2) := by
  obtain ⟨a, b, c, d⟩ := lblOk_bd h1
  obtain ⟨a', b', c', d'⟩ := lblOk_bd h2
  rw [flowB_eq h3 (meet_ok h1 h2), flowB_eq h3 h1, flowB_eq h3 h2, meetS_eq h1 h2, meetV_eq h1 h2, sub_and a b a' b', or_sub c d c' d']
  cases subB s3 s1 <;> cases subB s3 s2 <;> cases subB v1 v3 <;> cases subB v2 v3 <;> rfl
theorem meet_join {s1 v1 s2 v2 : Int} (h1 : lblOk s1 v1 = true) (h2 : lblOk s2 v2 = true) :
    meetS s1 v1 (joinS s1 v1 s2 v2) (joinV s1 v1 s2 v2) = s1 ∧ meetV s1 v1 (joinS s1 v1 s2 v2) (joinV s1 v1 s2 v2) = v1 := by
  obtain ⟨a, b, c, d⟩ := lblOk_bd h1
  obtain ⟨a', b', c', d'⟩ := lblOk_bd h2
  rw [meetS_eq h1 (join_ok h1 h2), meetV_eq h1 (join_ok h1 h2), joinS_eq h1 h2, joinV_eq h1 h2]; exact ⟨or_and a b a' b', and_or c d c' d'⟩
theorem join_meet {s1 v1 s2 v2 : Int} (h1 : lblOk s1 v1 = true) (h2 : lblOk s2 v2 = true) :
    joinS s1 v1 (meetS s1 v1 s2 v2) (meetV s1 v1 s2 v2) = s1 ∧ joinV s1 v1 (meetS s1 v1 s2 v2) (meetV s1 v1 s2 v2) = v1 := by
  obtain ⟨a, b, c, d⟩ := lblOk_bd h1
  obtain ⟨a', b', c', d'⟩ := lblOk_bd h2
  rw [joinS_eq h1 (meet_ok h1 h2), joinV_eq h1 (meet_ok h1 h2), meetS_eq h1 h2, meetV_eq h1 h2]; exact ⟨and_or a b a' b', or_and c d c' d'⟩
theorem join_assoc {s1 v1 s2 v2 s3 v3 : Int} (h1 : lblOk s1 v1 = true) (h2 : lblOk s2 v2 = true) (h3 : lblOk s3 v3 = true) :
    joinS (joinS s1 v1 s2 v2) (joinV s1 v1 s2 v2) s3 v3 = joinS s1 v1 (joinS s2 v2 s3 v3) (joinV s2 v2 s3 v3) ∧ joinV (joinS s1 v1 s2 v2) (joinV s1 v1 s2 v2) s3 v3 = joinV s1 v1 (joinS s2 v2 s3 v3) (joinV s2 v2 s3 v3) := by
  obtain ⟨a, b, c, d⟩ := lblOk_bd h1
  obtain ⟨a', b', c', d'⟩ := lblOk_bd h2
  obtain ⟨a3, b3, c3, d3⟩ := lblOk_bd h3
  rw [joinS_eq (join_ok h1 h2) h3, joinV_eq (join_ok h1 h2) h3, joinS_eq h1 (join_ok h2 h3), joinV_eq h1 (join_ok h2 h3), joinS_eq h1 h2, joinV_eq h1 h2, joinS_eq h2 h3, joinV_eq h2 h3]
  exact ⟨or_assoc' a b a' b' a3 b3, and_assoc' c d c' d' c3 d3⟩
theorem meet_assoc {s1 v1 s2 v2 s3 v3 : Int} (h1 : lblOk s1 v1 = true) (h2 : lblOk s2 v2 = true) (h3 : lblOk s3 v3 = true) :
    meetS (meetS s1 v1 s2 v2) (meetV s1 v1 s2 v2) s3 v3 = meetS s1 v1 (meetS s2 v2 s3 v3) (meetV s2 v2 s3 v3) ∧ meetV (meetS s1 v1 s2 v2) (meetV s1 v1 s2 v2) s3 v3 = meetV s1 v1 (meetS s2 v2 s3 v3) (meetV s2 v2 s3 v3) := by
  obtain ⟨a, b, c, d⟩ := lblOk_bd h1
  obtain ⟨a', b', c', d'⟩ := lblOk_bd h2
  obtain ⟨a3, b3, c3, d3⟩ := lblOk_bd h3
  rw [meetS_eq (meet_ok h1 h2) h3, meetV_eq (meet_ok h1 h2) h3, meetS_eq h1 (meet_ok h2 h3), meetV_eq h1 (meet_ok h2 h3), meetS_eq h1 h2, meetV_eq h1 h2, meetS_eq h2 h3, meetV_eq h2 h3]
  exact ⟨and_assoc' a b a' b' a3 b3, or_assoc' c d c' d' c3 d3⟩
end Go.Proofs.YtcgmnpppdoadhaaDoor
