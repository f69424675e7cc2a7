/- The drawn label: contracts of the reference's l71Label and of the draws of labels. No condition but that the reader's place stays small. -/
import Derived.Test.YtcgmnpppdoadhaaDoorRead
import Derived.Test.YtcgmnpppdoadhaaDoorLab
namespace Go.Proofs.YtcgmnpppdoadhaaDoor
set_option maxRecDepth 100000
open Go.RowKit
set_option linter.unusedVariables false

/-- What a draw of a label leaves. -/
def LabelDrawn (x : Nat) (p : Int) (w : World) (e : Ending) (w' : World) : Prop :=
  ∃ s k : Int, e = .returned (.agg #[.int .i64 s, .int .i64 k]) ∧ ∃ q : Int, p ≤ q ∧ q ≤ p + 4 ∧ Rd w' x q ∧ Kept x w w'
set_option maxHeartbeats 2000000 in
theorem l71Label_any (x : Nat) (p : Int) (w : World) (hr : Rd w x p) (hp0 : 0 ≤ p) (hp : p ≤ 90000000) :
    Calls Tryd.prog 85 #[.pointer (some ⟨x, 0, none⟩)] w (LabelDrawn x p w) := by
  have hx := hr.lt
  go_enter Tryd.func85, Tryd.ntmps85
  go_wp2_with fail
  refine named (p := fun W => Code.wp _ _ _ _ W) _ ?_
  intro W hW
  have tW : Kept x w W := by rw [← hW]; exact (Kept.refl x w).alloc _
  have rW : Rd W x p := by rw [← hW]; exact hr.alloc _
  have hO0 : W.heap[w.heap.size]? = some (.cells #[.int .i64 0, .int .i64 0] 32 (0, 0)) := by rw [← hW]; exact own_new _ _
  have zW : w.heap.size < W.heap.size := own_lt hO0
  have xW := rW.lt
  clear hW
  refine wp_region_each (by kernel_rfl) (by kernel_rfl) (by kernel_rfl) (fun b ac u => ∃ t3 t4 t5 t6 t7 t8 t9 t10 t11 t12 t13 t14 : Value, ac = ⟨#[.pointer (some ⟨x, 0, none⟩), undef, .pointer (some ⟨w.heap.size, 0, none⟩), t3, t4, t5, t6, t7, t8, t9, t10, t11, t12, t13, t14, undef, undef, undef, undef, undef, undef, undef, undef, undef, undef], []⟩ ∧ (Kept x W u ∧ RdC x p b [2, 7] u) ∧ (b[0]? = some true → b[12]? = some false → ∃ B : Nat, t4 = .slice (some ⟨B, 0, none⟩) 5 5 ∧ W.heap.size ≤ B ∧ u.heap[B]? = some (.cells #[.int .i64 0, .int .i64 0, .int .i64 1, .int .i64 2, .int .i64 3] 3 (0, 0))) ∧ (b[1]? = some true → t5 = .pointer (some ⟨x, 0, none⟩)) ∧ (b[2]? = some true → ∃ m : Int, t6 = .int .i64 m ∧ 0 ≤ m ∧ m < 5) ∧ (b[3]? = some true → b[12]? = some false → ∃ (B : Nat) (m : Int), t7 = .pointer (some ⟨B, m.toNat, none⟩) ∧ 0 ≤ m ∧ m < 5 ∧ W.heap.size ≤ B ∧ u.heap[B]? = some (.cells #[.int .i64 0, .int .i64 0, .int .i64 1, .int .i64 2, .int .i64 3] 3 (0, 0))) ∧ (b[4]? = some true → ∃ y : Int, t8 = .int .i64 y) ∧ (b[5]? = some true → b[12]? = some false → ∃ B : Nat, t9 = .slice (some ⟨B, 0, none⟩) 4 4 ∧ W.heap.size ≤ B ∧ u.heap[B]? = some (.cells #[.int .i64 0, .int .i64 0, .int .i64 3, .int .i64 1] 3 (0, 0))) ∧ (b[6]? = some true → t10 = .pointer (some ⟨x, 0, none⟩)) ∧ (b[7]? = some true → ∃ m : Int, t11 = .int .i64 m ∧ 0 ≤ m ∧ m < 4) ∧ (b[8]? = some true → b[12]? = some false → ∃ (B : Nat) (m : Int), t12 = .pointer (some ⟨B, m.toNat, none⟩) ∧ 0 ≤ m ∧ m < 4 ∧ W.heap.size ≤ B ∧ u.heap[B]? = some (.cells #[.int .i64 0, .int .i64 0, .int .i64 3, .int .i64 1] 3 (0, 0))) ∧ (b[9]? = some true → ∃ y : Int, t13 = .int .i64 y) ∧ (b[10]? = some true → ∃ y1 y2 : Int, t14 = .agg #[.int .i64 y1, .int .i64 y2]) ∧ (b[11]? = some true → b[12]? = some false → ∃ (B : Nat) (y1 y2 : Value), t3 = .pointer (some ⟨B, 0, none⟩) ∧ W.heap.size ≤ B ∧ u.heap[B]? = some (.cells #[y1, y2] 32 (0, 0))) ∧ (b[12]? = some true → ∃ (B : Nat) (y1 y2 : Int), t3 = .pointer (some ⟨B, 0, none⟩) ∧ W.heap.size ≤ B ∧ u.heap[B]? = some (.cells #[.int .i64 y1, .int .i64 y2] 32 (0, 0)))) ?h0_1 ⟨?o1_0, ?o1_1, ?o1_2, ?o1_3, ?o1_4, ?o1_5, ?o1_6, ?o1_7, ?o1_8, ?o1_9, ?o1_10, ?o1_11, ?o1_12, trivial⟩ ?hend_1
  case h0_1 => exact ⟨undef, undef, undef, undef, undef, undef, undef, undef, undef, undef, undef, undef, rfl, ⟨(Kept.refl x W).drew, RdC.start rW.drew⟩, by simp, by simp, by simp, by simp, by simp, by simp, by simp, by simp, by simp, by simp, by simp, by simp, by simp⟩
  case o1_0 =>
    rintro b ac u hbl hbi hcl he ⟨t3, t4, t5, t6, t7, t8, t9, t10, t11, t12, t13, t14, rfl, hk, g0, g1, g2, g3, g4, g5, g6, g7, g8, g9, g10, g11, g12⟩ K hK
    have hla := last_false (L := 12) hcl hbl rfl (by kernel_rfl) hbi
    clear he
    go_simp
    have hR := (Below.refl u.heap.size u).alloc (Nat.le_refl _) (.cells #[.int .i64 0, .int .i64 0, .int .i64 1, .int .i64 2, .int .i64 3] 3)
    have hS := (Kept.refl x u).of_below hR
    exact hK _ _ ⟨_, _, _, _, _, _, _, _, _, _, _, _, rfl, ⟨hk.1.of_below hR, hk.2.other (by decide) hR⟩, fun _ _ => ⟨_, rfl, hk.1.size, own_new _ _⟩, fun h => g1 (by simpa using h), fun h => g2 (by simpa using h), fun h _ => (fun g => (by obtain ⟨B, m, e, hm0, hm1, hB, hO⟩ := g; exact ⟨B, m, e, hm0, hm1, hB, own_kept hS (by omega) hO⟩)) (g3 (by simpa using h) hla), fun h => g4 (by simpa using h), fun h _ => (fun g => (by obtain ⟨B, e, hB, hO⟩ := g; exact ⟨B, e, hB, own_kept hS (by omega) hO⟩)) (g5 (by simpa using h) hla), fun h => g6 (by simpa using h), fun h => g7 (by simpa using h), fun h _ => (fun g => (by obtain ⟨B, m, e, hm0, hm1, hB, hO⟩ := g; exact ⟨B, m, e, hm0, hm1, hB, own_kept hS (by omega) hO⟩)) (g8 (by simpa using h) hla), fun h => g9 (by simpa using h), fun h => g10 (by simpa using h), fun h _ => (fun g => (by obtain ⟨B, z1, z2, e, hB, hO⟩ := g; exact ⟨B, z1, z2, e, hB, own_kept hS (by omega) hO⟩)) (g11 (by simpa using h) hla), fun h => (fun g => (by obtain ⟨B, y1, y2, e, hB, hO⟩ := g; exact ⟨B, y1, y2, e, hB, own_kept hS (by omega) hO⟩)) (g12 (by simpa using h))⟩
  case o1_1 =>
    rintro b ac u hbl hbi hcl he ⟨t3, t4, t5, t6, t7, t8, t9, t10, t11, t12, t13, t14, rfl, hk, g0, g1, g2, g3, g4, g5, g6, g7, g8, g9, g10, g11, g12⟩ K hK
    have hla := last_false (L := 12) hcl hbl rfl (by kernel_rfl) hbi
    clear he
    go_simp
    have hR := Below.refl u.heap.size u
    have hS := Kept.refl x u
    exact hK _ _ ⟨_, _, _, _, _, _, _, _, _, _, _, _, rfl, ⟨hk.1, hk.2.other (by decide) hR⟩, fun h _ => (fun g => (by obtain ⟨B, e, hB, hO⟩ := g; exact ⟨B, e, hB, own_kept hS (by omega) hO⟩)) (g0 (by simpa using h) hla), fun _ => rfl, fun h => g2 (by simpa using h), fun h _ => (fun g => (by obtain ⟨B, m, e, hm0, hm1, hB, hO⟩ := g; exact ⟨B, m, e, hm0, hm1, hB, own_kept hS (by omega) hO⟩)) (g3 (by simpa using h) hla), fun h => g4 (by simpa using h), fun h _ => (fun g => (by obtain ⟨B, e, hB, hO⟩ := g; exact ⟨B, e, hB, own_kept hS (by omega) hO⟩)) (g5 (by simpa using h) hla), fun h => g6 (by simpa using h), fun h => g7 (by simpa using h), fun h _ => (fun g => (by obtain ⟨B, m, e, hm0, hm1, hB, hO⟩ := g; exact ⟨B, m, e, hm0, hm1, hB, own_kept hS (by omega) hO⟩)) (g8 (by simpa using h) hla), fun h => g9 (by simpa using h), fun h => g10 (by simpa using h), fun h _ => (fun g => (by obtain ⟨B, z1, z2, e, hB, hO⟩ := g; exact ⟨B, z1, z2, e, hB, own_kept hS (by omega) hO⟩)) (g11 (by simpa using h) hla), fun h => (fun g => (by obtain ⟨B, y1, y2, e, hB, hO⟩ := g; exact ⟨B, y1, y2, e, hB, own_kept hS (by omega) hO⟩)) (g12 (by simpa using h))⟩
  case o1_2 =>
    rintro b ac u hbl hbi hcl he ⟨t3, t4, t5, t6, t7, t8, t9, t10, t11, t12, t13, t14, rfl, hk, g0, g1, g2, g3, g4, g5, g6, g7, g8, g9, g10, g11, g12⟩ K hK
    have hla := last_false (L := 12) hcl hbl rfl (by kernel_rfl) hbi
    have p1 : b[1]? = some true := by simp [Region.binds] at he; simp [he]
    obtain rfl := g1 p1
    clear he
    obtain ⟨hk1, q, hq1, hq2, hr⟩ := hk
    have hcn := Cnt_le b [2, 7]
    simp only [List.length_cons, List.length_nil] at hcn
    go_simp
    refine (pick_any _ _ _ _ hr (by omega) (by omega)).mono ?_
    rintro e u' ⟨m, rfl, hm0, hm1, _, hr', hS⟩
    replace hm1 := hm1 (by omega)
    go_simp
    exact hK _ _ ⟨_, _, _, _, _, _, _, _, _, _, _, _, rfl, ⟨hk1.trans hS, RdC.run hbi (by decide) (by decide) hq1 hq2 hr'⟩, fun h _ => (fun g => (by obtain ⟨B, e, hB, hO⟩ := g; exact ⟨B, e, hB, own_kept hS (by omega) hO⟩)) (g0 (by simpa using h) hla), fun h => g1 (by simpa using h), fun _ => ⟨m, rfl, hm0, hm1⟩, fun h _ => (fun g => (by obtain ⟨B, m, e, hm0, hm1, hB, hO⟩ := g; exact ⟨B, m, e, hm0, hm1, hB, own_kept hS (by omega) hO⟩)) (g3 (by simpa using h) hla), fun h => g4 (by simpa using h), fun h _ => (fun g => (by obtain ⟨B, e, hB, hO⟩ := g; exact ⟨B, e, hB, own_kept hS (by omega) hO⟩)) (g5 (by simpa using h) hla), fun h => g6 (by simpa using h), fun h => g7 (by simpa using h), fun h _ => (fun g => (by obtain ⟨B, m, e, hm0, hm1, hB, hO⟩ := g; exact ⟨B, m, e, hm0, hm1, hB, own_kept hS (by omega) hO⟩)) (g8 (by simpa using h) hla), fun h => g9 (by simpa using h), fun h => g10 (by simpa using h), fun h _ => (fun g => (by obtain ⟨B, z1, z2, e, hB, hO⟩ := g; exact ⟨B, z1, z2, e, hB, own_kept hS (by omega) hO⟩)) (g11 (by simpa using h) hla), fun h => (fun g => (by obtain ⟨B, y1, y2, e, hB, hO⟩ := g; exact ⟨B, y1, y2, e, hB, own_kept hS (by omega) hO⟩)) (g12 (by simpa using h))⟩
  case o1_3 =>
    rintro b ac u hbl hbi hcl he ⟨t3, t4, t5, t6, t7, t8, t9, t10, t11, t12, t13, t14, rfl, hk, g0, g1, g2, g3, g4, g5, g6, g7, g8, g9, g10, g11, g12⟩ K hK
    have hla := last_false (L := 12) hcl hbl rfl (by kernel_rfl) hbi
    have p0 : b[0]? = some true := by simp [Region.binds] at he; simp [he]
    have p2 : b[2]? = some true := by simp [Region.binds] at he; simp [he]
    obtain ⟨B, rfl, hB, hO⟩ := g0 p0 hla
    obtain ⟨m, rfl, hm0, hm1⟩ := g2 p2
    clear he
    go_simp
    have hR := Below.refl u.heap.size u
    have hS := Kept.refl x u
    exact hK _ _ ⟨_, _, _, _, _, _, _, _, _, _, _, _, rfl, ⟨hk.1, hk.2.other (by decide) hR⟩, fun h _ => (fun g => (by obtain ⟨B, e, hB, hO⟩ := g; exact ⟨B, e, hB, own_kept hS (by omega) hO⟩)) (g0 (by simpa using h) hla), fun h => g1 (by simpa using h), fun h => g2 (by simpa using h), fun _ _ => ⟨B, m, rfl, hm0, hm1, hB, hO⟩, fun h => g4 (by simpa using h), fun h _ => (fun g => (by obtain ⟨B, e, hB, hO⟩ := g; exact ⟨B, e, hB, own_kept hS (by omega) hO⟩)) (g5 (by simpa using h) hla), fun h => g6 (by simpa using h), fun h => g7 (by simpa using h), fun h _ => (fun g => (by obtain ⟨B, m, e, hm0, hm1, hB, hO⟩ := g; exact ⟨B, m, e, hm0, hm1, hB, own_kept hS (by omega) hO⟩)) (g8 (by simpa using h) hla), fun h => g9 (by simpa using h), fun h => g10 (by simpa using h), fun h _ => (fun g => (by obtain ⟨B, z1, z2, e, hB, hO⟩ := g; exact ⟨B, z1, z2, e, hB, own_kept hS (by omega) hO⟩)) (g11 (by simpa using h) hla), fun h => (fun g => (by obtain ⟨B, y1, y2, e, hB, hO⟩ := g; exact ⟨B, y1, y2, e, hB, own_kept hS (by omega) hO⟩)) (g12 (by simpa using h))⟩
  case o1_4 =>
    rintro b ac u hbl hbi hcl he ⟨t3, t4, t5, t6, t7, t8, t9, t10, t11, t12, t13, t14, rfl, hk, g0, g1, g2, g3, g4, g5, g6, g7, g8, g9, g10, g11, g12⟩ K hK
    have hla := last_false (L := 12) hcl hbl rfl (by kernel_rfl) hbi
    have p3 : b[3]? = some true := by simp [Region.binds] at he; simp [he]
    obtain ⟨B, m, rfl, hm0, hm1, hB, hO⟩ := g3 p3 hla
    clear he
    obtain ⟨oc, of⟩ := own_cells hO
    obtain ⟨y, hy, _⟩ := pick_list [.int .i64 0, .int .i64 0, .int .i64 1, .int .i64 2, .int .i64 3] m.toNat (fun _ => True) (by simp) (by simp; omega)
    go_simp
    have hR := Below.refl u.heap.size u
    have hS := Kept.refl x u
    exact hK _ _ ⟨_, _, _, _, _, _, _, _, _, _, _, _, rfl, ⟨hk.1, hk.2.other (by decide) hR⟩, fun h _ => (fun g => (by obtain ⟨B, e, hB, hO⟩ := g; exact ⟨B, e, hB, own_kept hS (by omega) hO⟩)) (g0 (by simpa using h) hla), fun h => g1 (by simpa using h), fun h => g2 (by simpa using h), fun h _ => (fun g => (by obtain ⟨B, m, e, hm0, hm1, hB, hO⟩ := g; exact ⟨B, m, e, hm0, hm1, hB, own_kept hS (by omega) hO⟩)) (g3 (by simpa using h) hla), fun _ => ⟨y, rfl⟩, fun h _ => (fun g => (by obtain ⟨B, e, hB, hO⟩ := g; exact ⟨B, e, hB, own_kept hS (by omega) hO⟩)) (g5 (by simpa using h) hla), fun h => g6 (by simpa using h), fun h => g7 (by simpa using h), fun h _ => (fun g => (by obtain ⟨B, m, e, hm0, hm1, hB, hO⟩ := g; exact ⟨B, m, e, hm0, hm1, hB, own_kept hS (by omega) hO⟩)) (g8 (by simpa using h) hla), fun h => g9 (by simpa using h), fun h => g10 (by simpa using h), fun h _ => (fun g => (by obtain ⟨B, z1, z2, e, hB, hO⟩ := g; exact ⟨B, z1, z2, e, hB, own_kept hS (by omega) hO⟩)) (g11 (by simpa using h) hla), fun h => (fun g => (by obtain ⟨B, y1, y2, e, hB, hO⟩ := g; exact ⟨B, y1, y2, e, hB, own_kept hS (by omega) hO⟩)) (g12 (by simpa using h))⟩
  case o1_5 =>
    rintro b ac u hbl hbi hcl he ⟨t3, t4, t5, t6, t7, t8, t9, t10, t11, t12, t13, t14, rfl, hk, g0, g1, g2, g3, g4, g5, g6, g7, g8, g9, g10, g11, g12⟩ K hK
    have hla := last_false (L := 12) hcl hbl rfl (by kernel_rfl) hbi
    clear he
    go_simp
    have hR := (Below.refl u.heap.size u).alloc (Nat.le_refl _) (.cells #[.int .i64 0, .int .i64 0, .int .i64 3, .int .i64 1] 3)
    have hS := (Kept.refl x u).of_below hR
    exact hK _ _ ⟨_, _, _, _, _, _, _, _, _, _, _, _, rfl, ⟨hk.1.of_below hR, hk.2.other (by decide) hR⟩, fun h _ => (fun g => (by obtain ⟨B, e, hB, hO⟩ := g; exact ⟨B, e, hB, own_kept hS (by omega) hO⟩)) (g0 (by simpa using h) hla), fun h => g1 (by simpa using h), fun h => g2 (by simpa using h), fun h _ => (fun g => (by obtain ⟨B, m, e, hm0, hm1, hB, hO⟩ := g; exact ⟨B, m, e, hm0, hm1, hB, own_kept hS (by omega) hO⟩)) (g3 (by simpa using h) hla), fun h => g4 (by simpa using h), fun _ _ => ⟨_, rfl, hk.1.size, own_new _ _⟩, fun h => g6 (by simpa using h), fun h => g7 (by simpa using h), fun h _ => (fun g => (by obtain ⟨B, m, e, hm0, hm1, hB, hO⟩ := g; exact ⟨B, m, e, hm0, hm1, hB, own_kept hS (by omega) hO⟩)) (g8 (by simpa using h) hla), fun h => g9 (by simpa using h), fun h => g10 (by simpa using h), fun h _ => (fun g => (by obtain ⟨B, z1, z2, e, hB, hO⟩ := g; exact ⟨B, z1, z2, e, hB, own_kept hS (by omega) hO⟩)) (g11 (by simpa using h) hla), fun h => (fun g => (by obtain ⟨B, y1, y2, e, hB, hO⟩ := g; exact ⟨B, y1, y2, e, hB, own_kept hS (by omega) hO⟩)) (g12 (by simpa using h))⟩
  case o1_6 =>
    rintro b ac u hbl hbi hcl he ⟨t3, t4, t5, t6, t7, t8, t9, t10, t11, t12, t13, t14, rfl, hk, g0, g1, g2, g3, g4, g5, g6, g7, g8, g9, g10, g11, g12⟩ K hK
    have hla := last_false (L := 12) hcl hbl rfl (by kernel_rfl) hbi
    clear he
    go_simp
    have hR := Below.refl u.heap.size u
    have hS := Kept.refl x u
    exact hK _ _ ⟨_, _, _, _, _, _, _, _, _, _, _, _, rfl, ⟨hk.1, hk.2.other (by decide) hR⟩, fun h _ => (fun g => (by obtain ⟨B, e, hB, hO⟩ := g; exact ⟨B, e, hB, own_kept hS (by omega) hO⟩)) (g0 (by simpa using h) hla), fun h => g1 (by simpa using h), fun h => g2 (by simpa using h), fun h _ => (fun g => (by obtain ⟨B, m, e, hm0, hm1, hB, hO⟩ := g; exact ⟨B, m, e, hm0, hm1, hB, own_kept hS (by omega) hO⟩)) (g3 (by simpa using h) hla), fun h => g4 (by simpa using h), fun h _ => (fun g => (by obtain ⟨B, e, hB, hO⟩ := g; exact ⟨B, e, hB, own_kept hS (by omega) hO⟩)) (g5 (by simpa using h) hla), fun _ => rfl, fun h => g7 (by simpa using h), fun h _ => (fun g => (by obtain ⟨B, m, e, hm0, hm1, hB, hO⟩ := g; exact ⟨B, m, e, hm0, hm1, hB, own_kept hS (by omega) hO⟩)) (g8 (by simpa using h) hla), fun h => g9 (by simpa using h), fun h => g10 (by simpa using h), fun h _ => (fun g => (by obtain ⟨B, z1, z2, e, hB, hO⟩ := g; exact ⟨B, z1, z2, e, hB, own_kept hS (by omega) hO⟩)) (g11 (by simpa using h) hla), fun h => (fun g => (by obtain ⟨B, y1, y2, e, hB, hO⟩ := g; exact ⟨B, y1, y2, e, hB, own_kept hS (by omega) hO⟩)) (g12 (by simpa using h))⟩
  case o1_7 =>
    rintro b ac u hbl hbi hcl he ⟨t3, t4, t5, t6, t7, t8, t9, t10, t11, t12, t13, t14, rfl, hk, g0, g1, g2, g3, g4, g5, g6, g7, g8, g9, g10, g11, g12⟩ K hK
    have hla := last_false (L := 12) hcl hbl rfl (by kernel_rfl) hbi
    have p6 : b[6]? = some true := by simp [Region.binds] at he; simp [he]
    obtain rfl := g6 p6
    clear he
    obtain ⟨hk1, q, hq1, hq2, hr⟩ := hk
    have hcn := Cnt_le b [2, 7]
    simp only [List.length_cons, List.length_nil] at hcn
    go_simp
    refine (pick_any _ _ _ _ hr (by omega) (by omega)).mono ?_
    rintro e u' ⟨m, rfl, hm0, hm1, _, hr', hS⟩
    replace hm1 := hm1 (by omega)
    go_simp
    exact hK _ _ ⟨_, _, _, _, _, _, _, _, _, _, _, _, rfl, ⟨hk1.trans hS, RdC.run hbi (by decide) (by decide) hq1 hq2 hr'⟩, fun h _ => (fun g => (by obtain ⟨B, e, hB, hO⟩ := g; exact ⟨B, e, hB, own_kept hS (by omega) hO⟩)) (g0 (by simpa using h) hla), fun h => g1 (by simpa using h), fun h => g2 (by simpa using h), fun h _ => (fun g => (by obtain ⟨B, m, e, hm0, hm1, hB, hO⟩ := g; exact ⟨B, m, e, hm0, hm1, hB, own_kept hS (by omega) hO⟩)) (g3 (by simpa using h) hla), fun h => g4 (by simpa using h), fun h _ => (fun g => (by obtain ⟨B, e, hB, hO⟩ := g; exact ⟨B, e, hB, own_kept hS (by omega) hO⟩)) (g5 (by simpa using h) hla), fun h => g6 (by simpa using h), fun _ => ⟨m, rfl, hm0, hm1⟩, fun h _ => (fun g => (by obtain ⟨B, m, e, hm0, hm1, hB, hO⟩ := g; exact ⟨B, m, e, hm0, hm1, hB, own_kept hS (by omega) hO⟩)) (g8 (by simpa using h) hla), fun h => g9 (by simpa using h), fun h => g10 (by simpa using h), fun h _ => (fun g => (by obtain ⟨B, z1, z2, e, hB, hO⟩ := g; exact ⟨B, z1, z2, e, hB, own_kept hS (by omega) hO⟩)) (g11 (by simpa using h) hla), fun h => (fun g => (by obtain ⟨B, y1, y2, e, hB, hO⟩ := g; exact ⟨B, y1, y2, e, hB, own_kept hS (by omega) hO⟩)) (g12 (by simpa using h))⟩
  case o1_8 =>
    rintro b ac u hbl hbi hcl he ⟨t3, t4, t5, t6, t7, t8, t9, t10, t11, t12, t13, t14, rfl, hk, g0, g1, g2, g3, g4, g5, g6, g7, g8, g9, g10, g11, g12⟩ K hK
    have hla := last_false (L := 12) hcl hbl rfl (by kernel_rfl) hbi
    have p5 : b[5]? = some true := by simp [Region.binds] at he; simp [he]
    have p7 : b[7]? = some true := by simp [Region.binds] at he; simp [he]
    obtain ⟨B, rfl, hB, hO⟩ := g5 p5 hla
    obtain ⟨m, rfl, hm0, hm1⟩ := g7 p7
    clear he
    go_simp
    have hR := Below.refl u.heap.size u
    have hS := Kept.refl x u
    exact hK _ _ ⟨_, _, _, _, _, _, _, _, _, _, _, _, rfl, ⟨hk.1, hk.2.other (by decide) hR⟩, fun h _ => (fun g => (by obtain ⟨B, e, hB, hO⟩ := g; exact ⟨B, e, hB, own_kept hS (by omega) hO⟩)) (g0 (by simpa using h) hla), fun h => g1 (by simpa using h), fun h => g2 (by simpa using h), fun h _ => (fun g => (by obtain ⟨B, m, e, hm0, hm1, hB, hO⟩ := g; exact ⟨B, m, e, hm0, hm1, hB, own_kept hS (by omega) hO⟩)) (g3 (by simpa using h) hla), fun h => g4 (by simpa using h), fun h _ => (fun g => (by obtain ⟨B, e, hB, hO⟩ := g; exact ⟨B, e, hB, own_kept hS (by omega) hO⟩)) (g5 (by simpa using h) hla), fun h => g6 (by simpa using h), fun h => g7 (by simpa using h), fun _ _ => ⟨B, m, rfl, hm0, hm1, hB, hO⟩, fun h => g9 (by simpa using h), fun h => g10 (by simpa using h), fun h _ => (fun g => (by obtain ⟨B, z1, z2, e, hB, hO⟩ := g; exact ⟨B, z1, z2, e, hB, own_kept hS (by omega) hO⟩)) (g11 (by simpa using h) hla), fun h => (fun g => (by obtain ⟨B, y1, y2, e, hB, hO⟩ := g; exact ⟨B, y1, y2, e, hB, own_kept hS (by omega) hO⟩)) (g12 (by simpa using h))⟩
  case o1_9 =>
    rintro b ac u hbl hbi hcl he ⟨t3, t4, t5, t6, t7, t8, t9, t10, t11, t12, t13, t14, rfl, hk, g0, g1, g2, g3, g4, g5, g6, g7, g8, g9, g10, g11, g12⟩ K hK
    have hla := last_false (L := 12) hcl hbl rfl (by kernel_rfl) hbi
    have p8 : b[8]? = some true := by simp [Region.binds] at he; simp [he]
    obtain ⟨B, m, rfl, hm0, hm1, hB, hO⟩ := g8 p8 hla
    clear he
    obtain ⟨oc, of⟩ := own_cells hO
    obtain ⟨y, hy, _⟩ := pick_list [.int .i64 0, .int .i64 0, .int .i64 3, .int .i64 1] m.toNat (fun _ => True) (by simp) (by simp; omega)
    go_simp
    have hR := Below.refl u.heap.size u
    have hS := Kept.refl x u
    exact hK _ _ ⟨_, _, _, _, _, _, _, _, _, _, _, _, rfl, ⟨hk.1, hk.2.other (by decide) hR⟩, fun h _ => (fun g => (by obtain ⟨B, e, hB, hO⟩ := g; exact ⟨B, e, hB, own_kept hS (by omega) hO⟩)) (g0 (by simpa using h) hla), fun h => g1 (by simpa using h), fun h => g2 (by simpa using h), fun h _ => (fun g => (by obtain ⟨B, m, e, hm0, hm1, hB, hO⟩ := g; exact ⟨B, m, e, hm0, hm1, hB, own_kept hS (by omega) hO⟩)) (g3 (by simpa using h) hla), fun h => g4 (by simpa using h), fun h _ => (fun g => (by obtain ⟨B, e, hB, hO⟩ := g; exact ⟨B, e, hB, own_kept hS (by omega) hO⟩)) (g5 (by simpa using h) hla), fun h => g6 (by simpa using h), fun h => g7 (by simpa using h), fun h _ => (fun g => (by obtain ⟨B, m, e, hm0, hm1, hB, hO⟩ := g; exact ⟨B, m, e, hm0, hm1, hB, own_kept hS (by omega) hO⟩)) (g8 (by simpa using h) hla), fun _ => ⟨y, rfl⟩, fun h => g10 (by simpa using h), fun h _ => (fun g => (by obtain ⟨B, z1, z2, e, hB, hO⟩ := g; exact ⟨B, z1, z2, e, hB, own_kept hS (by omega) hO⟩)) (g11 (by simpa using h) hla), fun h => (fun g => (by obtain ⟨B, y1, y2, e, hB, hO⟩ := g; exact ⟨B, y1, y2, e, hB, own_kept hS (by omega) hO⟩)) (g12 (by simpa using h))⟩
  case o1_10 =>
    rintro b ac u hbl hbi hcl he ⟨t3, t4, t5, t6, t7, t8, t9, t10, t11, t12, t13, t14, rfl, hk, g0, g1, g2, g3, g4, g5, g6, g7, g8, g9, g10, g11, g12⟩ K hK
    have hla := last_false (L := 12) hcl hbl rfl (by kernel_rfl) hbi
    have p4 : b[4]? = some true := by simp [Region.binds] at he; simp [he]
    have p9 : b[9]? = some true := by simp [Region.binds] at he; simp [he]
    obtain ⟨y8, rfl⟩ := g4 p4
    obtain ⟨y13, rfl⟩ := g9 p9
    clear he
    go_simp
    have hR := Below.refl u.heap.size u
    have hS := Kept.refl x u
    exact hK _ _ ⟨_, _, _, _, _, _, _, _, _, _, _, _, rfl, ⟨hk.1, hk.2.other (by decide) hR⟩, fun h _ => (fun g => (by obtain ⟨B, e, hB, hO⟩ := g; exact ⟨B, e, hB, own_kept hS (by omega) hO⟩)) (g0 (by simpa using h) hla), fun h => g1 (by simpa using h), fun h => g2 (by simpa using h), fun h _ => (fun g => (by obtain ⟨B, m, e, hm0, hm1, hB, hO⟩ := g; exact ⟨B, m, e, hm0, hm1, hB, own_kept hS (by omega) hO⟩)) (g3 (by simpa using h) hla), fun h => g4 (by simpa using h), fun h _ => (fun g => (by obtain ⟨B, e, hB, hO⟩ := g; exact ⟨B, e, hB, own_kept hS (by omega) hO⟩)) (g5 (by simpa using h) hla), fun h => g6 (by simpa using h), fun h => g7 (by simpa using h), fun h _ => (fun g => (by obtain ⟨B, m, e, hm0, hm1, hB, hO⟩ := g; exact ⟨B, m, e, hm0, hm1, hB, own_kept hS (by omega) hO⟩)) (g8 (by simpa using h) hla), fun h => g9 (by simpa using h), fun _ => ⟨_, _, rfl⟩, fun h _ => (fun g => (by obtain ⟨B, z1, z2, e, hB, hO⟩ := g; exact ⟨B, z1, z2, e, hB, own_kept hS (by omega) hO⟩)) (g11 (by simpa using h) hla), fun h => (fun g => (by obtain ⟨B, y1, y2, e, hB, hO⟩ := g; exact ⟨B, y1, y2, e, hB, own_kept hS (by omega) hO⟩)) (g12 (by simpa using h))⟩
  case o1_11 =>
    rintro b ac u hbl hbi hcl he ⟨t3, t4, t5, t6, t7, t8, t9, t10, t11, t12, t13, t14, rfl, hk, g0, g1, g2, g3, g4, g5, g6, g7, g8, g9, g10, g11, g12⟩ K hK
    have hla := last_false (L := 12) hcl hbl rfl (by kernel_rfl) hbi
    clear he
    go_simp
    have hR := (Below.refl u.heap.size u).alloc (Nat.le_refl _) (.cells #[.int .i64 0, .int .i64 0] 32)
    have hS := (Kept.refl x u).of_below hR
    exact hK _ _ ⟨_, _, _, _, _, _, _, _, _, _, _, _, rfl, ⟨hk.1.of_below hR, hk.2.other (by decide) hR⟩, fun h _ => (fun g => (by obtain ⟨B, e, hB, hO⟩ := g; exact ⟨B, e, hB, own_kept hS (by omega) hO⟩)) (g0 (by simpa using h) hla), fun h => g1 (by simpa using h), fun h => g2 (by simpa using h), fun h _ => (fun g => (by obtain ⟨B, m, e, hm0, hm1, hB, hO⟩ := g; exact ⟨B, m, e, hm0, hm1, hB, own_kept hS (by omega) hO⟩)) (g3 (by simpa using h) hla), fun h => g4 (by simpa using h), fun h _ => (fun g => (by obtain ⟨B, e, hB, hO⟩ := g; exact ⟨B, e, hB, own_kept hS (by omega) hO⟩)) (g5 (by simpa using h) hla), fun h => g6 (by simpa using h), fun h => g7 (by simpa using h), fun h _ => (fun g => (by obtain ⟨B, m, e, hm0, hm1, hB, hO⟩ := g; exact ⟨B, m, e, hm0, hm1, hB, own_kept hS (by omega) hO⟩)) (g8 (by simpa using h) hla), fun h => g9 (by simpa using h), fun h => g10 (by simpa using h), fun _ _ => ⟨_, _, _, rfl, hk.1.size, own_new _ _⟩, fun h => (by have hn := hcl 12 _ rfl (by simpa using h); simp [Region.binds, hbi] at hn)⟩
  case o1_12 =>
    rintro b ac u hbl hbi hcl he ⟨t3, t4, t5, t6, t7, t8, t9, t10, t11, t12, t13, t14, rfl, hk, g0, g1, g2, g3, g4, g5, g6, g7, g8, g9, g10, g11, g12⟩ K hK
    have hla := hbi
    have p10 : b[10]? = some true := by simp [Region.binds] at he; simp [he]
    have p11 : b[11]? = some true := by simp [Region.binds] at he; simp [he]
    obtain ⟨y1, y2, rfl⟩ := g10 p10
    obtain ⟨B, z1, z2, rfl, hB, hO⟩ := g11 p11 hla
    clear he
    obtain ⟨oc, of⟩ := own_cells hO
    go_simp
    exact hK _ _ ⟨_, _, _, _, _, _, _, _, _, _, _, _, rfl, ⟨(hk.1.setCell_new hB _).setCell_new hB _, (by obtain ⟨q, h1, h2, h3⟩ := hk.2; exact ⟨q, h1, by rw [Cnt_other (by decide)]; exact h2, (h3.setCell (a := ⟨B, 0, none⟩) (show x < B by omega) _).setCell (a := ⟨B, 1, none⟩) (show x < B by omega) _⟩)⟩, fun _ h => (by simp [hbl] at h), fun h => g1 (by simpa using h), fun h => g2 (by simpa using h), fun _ h => (by simp [hbl] at h), fun h => g4 (by simpa using h), fun _ h => (by simp [hbl] at h), fun h => g6 (by simpa using h), fun h => g7 (by simpa using h), fun _ h => (by simp [hbl] at h), fun h => g9 (by simpa using h), fun h => g10 (by simpa using h), fun _ h => (by simp [hbl] at h), fun _ => ⟨B, y1, y2, rfl, hB, own_set (own_set hO _ _) _ _⟩⟩
  rintro ac u ⟨t3, t4, t5, t6, t7, t8, t9, t10, t11, t12, t13, t14, rfl, hk, g0, g1, g2, g3, g4, g5, g6, g7, g8, g9, g10, g11, g12⟩
  clear g0
  replace g1 := g1 (by simp)
  replace g2 := g2 (by simp)
  clear g3
  replace g4 := g4 (by simp)
  clear g5
  replace g6 := g6 (by simp)
  replace g7 := g7 (by simp)
  clear g8
  replace g9 := g9 (by simp)
  replace g10 := g10 (by simp)
  clear g11
  replace g12 := g12 (by simp)
  obtain rfl := g1
  obtain ⟨mA, rfl, _, _⟩ := g2
  obtain ⟨n1, rfl⟩ := g4
  obtain rfl := g6
  obtain ⟨mB, rfl, _, _⟩ := g7
  obtain ⟨n2, rfl⟩ := g9
  obtain ⟨y1, y2, rfl⟩ := g10
  obtain ⟨B, s1, v1, rfl, hB, hO⟩ := g12
  obtain ⟨hk1, q, hq1, hq2, r0⟩ := hk
  replace hq2 : q ≤ p + 2 := hq2
  have t0 : Kept x w u := tW.trans hk1
  have hOr := own_kept hk1 (by omega) hO0
  clear hO0 hk1 rW tW
  have lx0 := r0.lt
  have zB := own_lt hO
  obtain ⟨oc, of⟩ := own_cells hO
  obtain ⟨ocr, ofr⟩ := own_cells hOr
  go_wp2_with fail
  refine (pick_any _ _ _ _ (by (repeat (first | with_reducible exact r0 | with_reducible apply Rd.setCell | with_reducible apply Rd.alloc | with_reducible apply Rd.drew)); (all_goals (first | omega | (simp <;> omega)))) (by omega) (by omega)).mono ?_
  rintro e w1 ⟨m1, rfl, lo1, hi1, _, r1, k1⟩
  replace hi1 := hi1 (by omega)
  have z1 := k1.size
  try simp at z1
  have lx1 := r1.lt
  have z1_0 : w.heap.size < w1.heap.size := by omega
  have y1_0 : ¬ w.heap.size = x := by omega
  have z1_1 : B < w1.heap.size := by omega
  have y1_1 : ¬ B = x := by omega
  have t1 : Kept x w w1 := by
    refine Kept.trans ?_ k1
    · (repeat (first | with_reducible exact t0 | with_reducible refine Kept.setCell_new ?_ ?_ _ | with_reducible refine Kept.alloc ?_ _ | with_reducible refine Kept.drew ?_)); (all_goals (first | omega | (simp <;> omega)))
  obtain ⟨c1, f1⟩ := kcell k1
  replace hO := own_kept k1 (by omega) hO
  replace hOr := own_kept k1 (by omega) hOr
  obtain ⟨oc1, of1⟩ := own_cells hO
  obtain ⟨ocr1, ofr1⟩ := own_cells hOr
  clear oc of ocr ofr c1 f1 k1
  have zr := own_lt hOr
  have zB1 := own_lt hO
  cases hm : (m1 == 0)
  · go_wp2_with fail
    have hE := own_set (own_set hOr 0 (.int .i64 s1)) 1 (.int .i64 v1)
    obtain ⟨ocE, _⟩ := own_cells hE
    refine bodyPost_ret (v := .agg #[.int .i64 s1, .int .i64 v1]) (by clear ocr1 oc1; simp only [results, Tryd.results85]; go_simp) rfl ⟨s1, v1, rfl, q + 1, by omega, by omega, ?_, ?_⟩
    · (repeat (first | with_reducible exact r1 | with_reducible apply Rd.setCell | with_reducible apply Rd.alloc | with_reducible apply Rd.drew)); (all_goals (first | omega | (simp <;> omega)))
    · (repeat (first | with_reducible exact t1 | with_reducible refine Kept.setCell_new ?_ ?_ _ | with_reducible refine Kept.alloc ?_ _ | with_reducible refine Kept.drew ?_)); (all_goals (first | omega | (simp <;> omega)))
  · go_wp2_with fail
    have hS := own_new w1 (.cells #[.int .i64 (-1), .int .i64 4] 3)
    refine (pick_any _ _ _ _ (by (repeat (first | with_reducible exact r1 | with_reducible apply Rd.setCell | with_reducible apply Rd.alloc | with_reducible apply Rd.drew)); (all_goals (first | omega | (simp <;> omega)))) (by omega) (by omega)).mono ?_
    rintro e w2 ⟨m2, rfl, lo2, hi2, _, r2, k2⟩
    replace hi2 := hi2 (by omega)
    have z2 := k2.size
    try simp at z2
    have lx2 := r2.lt
    have z2_0 : w.heap.size < w2.heap.size := by omega
    have y2_0 : ¬ w.heap.size = x := by omega
    have z2_1 : B < w2.heap.size := by omega
    have y2_1 : ¬ B = x := by omega
    have z2_2 : w1.heap.size < w2.heap.size := by omega
    have y2_2 : ¬ w1.heap.size = x := by omega
    have t2 : Kept x w w2 := by
      refine Kept.trans ?_ k2
      · (repeat (first | with_reducible exact t1 | with_reducible refine Kept.setCell_new ?_ ?_ _ | with_reducible refine Kept.alloc ?_ _ | with_reducible refine Kept.drew ?_)); (all_goals (first | omega | (simp <;> omega)))
    obtain ⟨c2, f2⟩ := kcell k2
    replace hO := own_kept k2 (by omega) (own_alloc hO _)
    replace hOr := own_kept k2 (by omega) (own_alloc hOr _)
    replace hS := own_kept k2 (by omega) hS
    obtain ⟨oc2, of2⟩ := own_cells hO
    obtain ⟨ocr2, ofr2⟩ := own_cells hOr
    obtain ⟨ocs2, ofs2⟩ := own_cells hS
    clear oc1 of1 ocr1 ofr1 c2 f2 k2
    obtain ⟨y, hy, _⟩ := pick_list [.int .i64 (-1), .int .i64 4] m2.toNat (fun _ => True) (by simp) (by simp; omega)
    go_wp2_with fail
    have hE := own_set (own_set (own_set_ne (B := w.heap.size) hOr (p := ⟨B, 0, none⟩) (show B ≠ w.heap.size by omega) (.int .i64 y)) 0 (.int .i64 y)) 1 (.int .i64 v1)
    obtain ⟨ocE, _⟩ := own_cells hE
    refine bodyPost_ret (v := .agg #[.int .i64 y, .int .i64 v1]) (by clear ocr2 oc2 ocs2; simp only [results, Tryd.results85]; go_simp) rfl ⟨y, v1, rfl, q + 1 + 1, by omega, by omega, ?_, ?_⟩
    · (repeat (first | with_reducible exact r2 | with_reducible apply Rd.setCell | with_reducible apply Rd.alloc | with_reducible apply Rd.drew)); (all_goals (first | omega | (simp <;> omega)))
    · (repeat (first | with_reducible exact t2 | with_reducible refine Kept.setCell_new ?_ ?_ _ | with_reducible refine Kept.alloc ?_ _ | with_reducible refine Kept.drew ?_)); (all_goals (first | omega | (simp <;> omega)))
end Go.Proofs.YtcgmnpppdoadhaaDoor
