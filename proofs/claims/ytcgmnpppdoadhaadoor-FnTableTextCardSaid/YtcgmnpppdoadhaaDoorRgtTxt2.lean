/- The contract of the program's text of a right that is to a thing. The numbers lie in 0 .. 99. -/
import Derived.Test.YtcgmnpppdoadhaaDoorRgtTxt
namespace Go.Proofs.YtcgmnpppdoadhaaDoor
set_option maxRecDepth 100000
open Go.RowKit
set_option linter.unusedVariables false
theorem unmarked (w : World) (o : Obj) (C : Array Value) (E : TypeId) (k : Nat) (hk : k < 3) : ((w.alloc o).alloc (.cells C E (3, 4))).frozen? ⟨w.heap.size + 1, k, none⟩ = false := by
  have h := own_new (w.alloc o) (.cells C E (3, 4))
  simp only [World.size_alloc] at h
  unfold World.frozen?
  rw [h]
  simp
  omega
theorem marked (w : World) (o : Obj) (C : Array Value) (E : TypeId) (k : Nat) : ((w.alloc o).alloc (.cells C E (3, 4))).cell? ⟨w.heap.size + 1, k, none⟩ = C[k]? := by
  have h := own_new (w.alloc o) (.cells C E (3, 4))
  simp only [World.size_alloc] at h
  unfold World.cell?
  show (match ((w.alloc o).alloc (.cells C E (3, 4))).heap[w.heap.size + 1]? with | some (.cells c _ _) => c[k]? | _ => none) = C[k]?
  rw [h]
theorem conv_three {P : Program} {S T E : TypeId} (hS : P.underlying S = some (.slice E)) (hE : P.underlying E = some (.int .u8)) (hT : P.underlying T = some .string) {u : World} {B : Nat} {x y z : Int} {a b c : UInt8} {fr : Nat × Nat}
    (hO : u.heap[B]? = some (.cells #[.int .u8 x, .int .u8 y, .int .u8 z] E fr)) (hx : x = a.toNat) (hy : y = b.toNat) (hz : z = c.toNat) :
    (convert S T (.slice (some ⟨B, 0, none⟩) 3 3)).run P u = .ok (.string (txt [a, b, c])) u :=
  run_convert_bytes_back (P := P) u S T E ⟨B, 0, none⟩ 3 [a, b, c] hS hE hT (fun j hj => by
    subst hx hy hz
    match j, hj with
    | 0, _ => simp [Addr.add, World.cell?, hO]
    | 1, _ => simp [Addr.add, World.cell?, hO]
    | 2, _ => simp [Addr.add, World.cell?, hO])
set_option maxHeartbeats 2000000 in
theorem text_000 (m n : Nat) (hm : m < 100) (hn : n < 100) (w : World) :
    Calls Tryd.prog 163 #[.agg #[.int .i64 m, .int .i64 n, .bool false, .bool false, .bool false]] w fun e w' => e = .returned (.string (txt (dec m) ++ ⟨#[46]⟩ ++ txt (dec n) ++ txt [45, 45, 45])) ∧ Below w.heap.size w w' := by
  have H1 := itoa_any m hm
  have H2 := itoa_any n hn
  have z1 := dec_sz m
  have z2 := dec_sz n
  have z3 : (txt [45, 45, 45]).size ≤ 3 := by rw [txt_size]; simp
  generalize txt (dec m) = D1 at *
  generalize txt (dec n) = D2 at *
  have H1' := hid H1
  have H2' := hid H2
  clear H1 H2
  have kc := Lib.run_convert_bytes_const (P := Tryd.prog) (w.alloc (.cells #[.int .i64 m, .int .i64 n, .bool false, .bool false, .bool false] 164)) 22 5 #[.int .u8 45, .int .u8 45, .int .u8 45] 3 3 Tryd.underlying22 Tryd.underlying5
  simp only [World.size_alloc, List.size_toArray, List.length_cons, List.length_nil, Nat.reduceAdd] at kc
  have hz0 := fun C => unmarked w (.cells #[.int .i64 m, .int .i64 n, .bool false, .bool false, .bool false] 164) C 5 0 (by decide)
  have hz1 := fun C => unmarked w (.cells #[.int .i64 m, .int .i64 n, .bool false, .bool false, .bool false] 164) C 5 1 (by decide)
  have hz2 := fun C => unmarked w (.cells #[.int .i64 m, .int .i64 n, .bool false, .bool false, .bool false] 164) C 5 2 (by decide)
  have hy := fun C => marked w (.cells #[.int .i64 m, .int .i64 n, .bool false, .bool false, .bool false] 164) C 5
  go_enter Tryd.func163, Tryd.ntmps163
  go_wp2_with fail
  refine named (p := fun W => Code.wp _ _ _ _ W) _ ?_
  intro W hW
  have tt : Below w.heap.size w W := by
    rw [← hW]
    exact ((Below.refl _ _).alloc (Nat.le_refl _) _).alloc (by simp) _
  have hA : W.heap[w.heap.size]? = some (.cells #[.int .i64 m, .int .i64 n, .bool false, .bool false, .bool false] 164 (0, 0)) := by
    rw [← hW]
    exact own_alloc (own_new _ _) _
  have hL : W.heap[w.heap.size + 1]? = some (.cells #[.int .u8 45, .int .u8 45, .int .u8 45] 5 (3, 4)) := by
    rw [← hW]
    have h := own_new (w.alloc (.cells #[.int .i64 m, .int .i64 n, .bool false, .bool false, .bool false] 164)) (.cells #[.int .u8 45, .int .u8 45, .int .u8 45] 5 (3, 4))
    simp only [World.size_alloc] at h
    exact h
  clear hW kc hz0 hz1 hz2 hy
  have hcv := fun u (hu : Below W.heap.size W u) => conv_three (P := Tryd.prog) (T := 9) (a := 45) (b := 45) (c := 45) Tryd.underlying22 Tryd.underlying5 Tryd.underlying9 (own_below hu hL) rfl rfl rfl
  generalize hF : txt [45, 45, 45] = F at hcv z3
  have HF := hid hF
  clear hF
  have q1 : ¬ 9223372036854775807 < D1.size + 1 := by omega
  have q2 : ¬ 9223372036854775807 < D1.size + 1 + D2.size := by omega
  have q3 : ¬ 9223372036854775807 < D1.size + 1 + D2.size + F.size := by omega
  have hcv' := hid hcv
  clear z1 z2 z3 hL hcv
  refine wp_region_quiet_below (by kernel_rfl) (by kernel_rfl) ?_
  repeat (first
    | (refine qskip rfl (fun K hK => ?_); go_simp; refine hK _ ?_; clear hK K)
    | (apply qval rfl; (case h => (intro u hu; obtain ⟨_, _⟩ := own_cells (own_below hu hA); have hcv := hcv'.out u hu; go_simp; exact rfl)); (intro K hK; go_simp; refine hK _ ?_; clear hK K))
    | (apply qcall rfl; (case h => (intro u hu; go_simp; exact ⟨rfl, rfl⟩)); (case hc => (intro u hu; with_reducible exact Calls.in_same hu (H1'.out _))); (intro K hK; go_simp; refine hK _ ?_; clear hK K))
    | (apply qcall rfl; (case h => (intro u hu; go_simp; exact ⟨rfl, rfl⟩)); (case hc => (intro u hu; with_reducible exact Calls.in_same hu (H2'.out _))); (intro K hK; go_simp; refine hK _ ?_; clear hK K)))
  refine wpQuiet_nil ?_
  intro u hu
  go_wp2_with fail
  rw [HF.out]
  exact bodyPost_ret (v := .string (D1 ++ ⟨#[46]⟩ ++ D2 ++ F)) (by simp only [results, Tryd.results163]; go_simp) rfl ⟨rfl, tt.trans (hu.mono tt.size)⟩
set_option maxHeartbeats 2000000 in
theorem text_001 (m n : Nat) (hm : m < 100) (hn : n < 100) (w : World) :
    Calls Tryd.prog 163 #[.agg #[.int .i64 m, .int .i64 n, .bool false, .bool false, .bool true]] w fun e w' => e = .returned (.string (txt (dec m) ++ ⟨#[46]⟩ ++ txt (dec n) ++ txt [45, 45, 107])) ∧ Below w.heap.size w w' := by
  have H1 := itoa_any m hm
  have H2 := itoa_any n hn
  have z1 := dec_sz m
  have z2 := dec_sz n
  have z3 : (txt [45, 45, 107]).size ≤ 3 := by rw [txt_size]; simp
  generalize txt (dec m) = D1 at *
  generalize txt (dec n) = D2 at *
  have H1' := hid H1
  have H2' := hid H2
  clear H1 H2
  have kc := Lib.run_convert_bytes_const (P := Tryd.prog) (w.alloc (.cells #[.int .i64 m, .int .i64 n, .bool false, .bool false, .bool true] 164)) 22 5 #[.int .u8 45, .int .u8 45, .int .u8 45] 3 3 Tryd.underlying22 Tryd.underlying5
  simp only [World.size_alloc, List.size_toArray, List.length_cons, List.length_nil, Nat.reduceAdd] at kc
  have hz0 := fun C => unmarked w (.cells #[.int .i64 m, .int .i64 n, .bool false, .bool false, .bool true] 164) C 5 0 (by decide)
  have hz1 := fun C => unmarked w (.cells #[.int .i64 m, .int .i64 n, .bool false, .bool false, .bool true] 164) C 5 1 (by decide)
  have hz2 := fun C => unmarked w (.cells #[.int .i64 m, .int .i64 n, .bool false, .bool false, .bool true] 164) C 5 2 (by decide)
  have hy := fun C => marked w (.cells #[.int .i64 m, .int .i64 n, .bool false, .bool false, .bool true] 164) C 5
  go_enter Tryd.func163, Tryd.ntmps163
  go_wp2_with fail
  refine named (p := fun W => Code.wp _ _ _ _ W) _ ?_
  intro W hW
  have tt : Below w.heap.size w W := by
    rw [← hW]
    exact (((Below.refl _ _).alloc (Nat.le_refl _) _).alloc (by simp) _).setCell (p := ⟨w.heap.size + 1, 2, none⟩) (show w.heap.size ≤ w.heap.size + 1 by omega) _
  have hA : W.heap[w.heap.size]? = some (.cells #[.int .i64 m, .int .i64 n, .bool false, .bool false, .bool true] 164 (0, 0)) := by
    rw [← hW]
    exact own_set_ne (own_alloc (own_new _ _) _) (p := ⟨w.heap.size + 1, 2, none⟩) (show w.heap.size + 1 ≠ w.heap.size by omega) _
  have hL : W.heap[w.heap.size + 1]? = some (.cells #[.int .u8 45, .int .u8 45, .int .u8 107] 5 (3, 4)) := by
    rw [← hW]
    have h := own_new (w.alloc (.cells #[.int .i64 m, .int .i64 n, .bool false, .bool false, .bool true] 164)) (.cells #[.int .u8 45, .int .u8 45, .int .u8 45] 5 (3, 4))
    simp only [World.size_alloc] at h
    exact own_set (h) 2 _
  clear hW kc hz0 hz1 hz2 hy
  have hcv := fun u (hu : Below W.heap.size W u) => conv_three (P := Tryd.prog) (T := 9) (a := 45) (b := 45) (c := 107) Tryd.underlying22 Tryd.underlying5 Tryd.underlying9 (own_below hu hL) rfl rfl rfl
  generalize hF : txt [45, 45, 107] = F at hcv z3
  have HF := hid hF
  clear hF
  have q1 : ¬ 9223372036854775807 < D1.size + 1 := by omega
  have q2 : ¬ 9223372036854775807 < D1.size + 1 + D2.size := by omega
  have q3 : ¬ 9223372036854775807 < D1.size + 1 + D2.size + F.size := by omega
  have hcv' := hid hcv
  clear z1 z2 z3 hL hcv
  refine wp_region_quiet_below (by kernel_rfl) (by kernel_rfl) ?_
  repeat (first
    | (refine qskip rfl (fun K hK => ?_); go_simp; refine hK _ ?_; clear hK K)
    | (apply qval rfl; (case h => (intro u hu; obtain ⟨_, _⟩ := own_cells (own_below hu hA); have hcv := hcv'.out u hu; go_simp; exact rfl)); (intro K hK; go_simp; refine hK _ ?_; clear hK K))
    | (apply qcall rfl; (case h => (intro u hu; go_simp; exact ⟨rfl, rfl⟩)); (case hc => (intro u hu; with_reducible exact Calls.in_same hu (H1'.out _))); (intro K hK; go_simp; refine hK _ ?_; clear hK K))
    | (apply qcall rfl; (case h => (intro u hu; go_simp; exact ⟨rfl, rfl⟩)); (case hc => (intro u hu; with_reducible exact Calls.in_same hu (H2'.out _))); (intro K hK; go_simp; refine hK _ ?_; clear hK K)))
  refine wpQuiet_nil ?_
  intro u hu
  go_wp2_with fail
  rw [HF.out]
  exact bodyPost_ret (v := .string (D1 ++ ⟨#[46]⟩ ++ D2 ++ F)) (by simp only [results, Tryd.results163]; go_simp) rfl ⟨rfl, tt.trans (hu.mono tt.size)⟩
set_option maxHeartbeats 2000000 in
theorem text_010 (m n : Nat) (hm : m < 100) (hn : n < 100) (w : World) :
    Calls Tryd.prog 163 #[.agg #[.int .i64 m, .int .i64 n, .bool false, .bool true, .bool false]] w fun e w' => e = .returned (.string (txt (dec m) ++ ⟨#[46]⟩ ++ txt (dec n) ++ txt [45, 119, 45])) ∧ Below w.heap.size w w' := by
  have H1 := itoa_any m hm
  have H2 := itoa_any n hn
  have z1 := dec_sz m
  have z2 := dec_sz n
  have z3 : (txt [45, 119, 45]).size ≤ 3 := by rw [txt_size]; simp
  generalize txt (dec m) = D1 at *
  generalize txt (dec n) = D2 at *
  have H1' := hid H1
  have H2' := hid H2
  clear H1 H2
  have kc := Lib.run_convert_bytes_const (P := Tryd.prog) (w.alloc (.cells #[.int .i64 m, .int .i64 n, .bool false, .bool true, .bool false] 164)) 22 5 #[.int .u8 45, .int .u8 45, .int .u8 45] 3 3 Tryd.underlying22 Tryd.underlying5
  simp only [World.size_alloc, List.size_toArray, List.length_cons, List.length_nil, Nat.reduceAdd] at kc
  have hz0 := fun C => unmarked w (.cells #[.int .i64 m, .int .i64 n, .bool false, .bool true, .bool false] 164) C 5 0 (by decide)
  have hz1 := fun C => unmarked w (.cells #[.int .i64 m, .int .i64 n, .bool false, .bool true, .bool false] 164) C 5 1 (by decide)
  have hz2 := fun C => unmarked w (.cells #[.int .i64 m, .int .i64 n, .bool false, .bool true, .bool false] 164) C 5 2 (by decide)
  have hy := fun C => marked w (.cells #[.int .i64 m, .int .i64 n, .bool false, .bool true, .bool false] 164) C 5
  go_enter Tryd.func163, Tryd.ntmps163
  go_wp2_with fail
  refine named (p := fun W => Code.wp _ _ _ _ W) _ ?_
  intro W hW
  have tt : Below w.heap.size w W := by
    rw [← hW]
    exact (((Below.refl _ _).alloc (Nat.le_refl _) _).alloc (by simp) _).setCell (p := ⟨w.heap.size + 1, 1, none⟩) (show w.heap.size ≤ w.heap.size + 1 by omega) _
  have hA : W.heap[w.heap.size]? = some (.cells #[.int .i64 m, .int .i64 n, .bool false, .bool true, .bool false] 164 (0, 0)) := by
    rw [← hW]
    exact own_set_ne (own_alloc (own_new _ _) _) (p := ⟨w.heap.size + 1, 1, none⟩) (show w.heap.size + 1 ≠ w.heap.size by omega) _
  have hL : W.heap[w.heap.size + 1]? = some (.cells #[.int .u8 45, .int .u8 119, .int .u8 45] 5 (3, 4)) := by
    rw [← hW]
    have h := own_new (w.alloc (.cells #[.int .i64 m, .int .i64 n, .bool false, .bool true, .bool false] 164)) (.cells #[.int .u8 45, .int .u8 45, .int .u8 45] 5 (3, 4))
    simp only [World.size_alloc] at h
    exact own_set (h) 1 _
  clear hW kc hz0 hz1 hz2 hy
  have hcv := fun u (hu : Below W.heap.size W u) => conv_three (P := Tryd.prog) (T := 9) (a := 45) (b := 119) (c := 45) Tryd.underlying22 Tryd.underlying5 Tryd.underlying9 (own_below hu hL) rfl rfl rfl
  generalize hF : txt [45, 119, 45] = F at hcv z3
  have HF := hid hF
  clear hF
  have q1 : ¬ 9223372036854775807 < D1.size + 1 := by omega
  have q2 : ¬ 9223372036854775807 < D1.size + 1 + D2.size := by omega
  have q3 : ¬ 9223372036854775807 < D1.size + 1 + D2.size + F.size := by omega
  have hcv' := hid hcv
  clear z1 z2 z3 hL hcv
  refine wp_region_quiet_below (by kernel_rfl) (by kernel_rfl) ?_
  repeat (first
    | (refine qskip rfl (fun K hK => ?_); go_simp; refine hK _ ?_; clear hK K)
    | (apply qval rfl; (case h => (intro u hu; obtain ⟨_, _⟩ := own_cells (own_below hu hA); have hcv := hcv'.out u hu; go_simp; exact rfl)); (intro K hK; go_simp; refine hK _ ?_; clear hK K))
    | (apply qcall rfl; (case h => (intro u hu; go_simp; exact ⟨rfl, rfl⟩)); (case hc => (intro u hu; with_reducible exact Calls.in_same hu (H1'.out _))); (intro K hK; go_simp; refine hK _ ?_; clear hK K))
    | (apply qcall rfl; (case h => (intro u hu; go_simp; exact ⟨rfl, rfl⟩)); (case hc => (intro u hu; with_reducible exact Calls.in_same hu (H2'.out _))); (intro K hK; go_simp; refine hK _ ?_; clear hK K)))
  refine wpQuiet_nil ?_
  intro u hu
  go_wp2_with fail
  rw [HF.out]
  exact bodyPost_ret (v := .string (D1 ++ ⟨#[46]⟩ ++ D2 ++ F)) (by simp only [results, Tryd.results163]; go_simp) rfl ⟨rfl, tt.trans (hu.mono tt.size)⟩
set_option maxHeartbeats 2000000 in
theorem text_011 (m n : Nat) (hm : m < 100) (hn : n < 100) (w : World) :
    Calls Tryd.prog 163 #[.agg #[.int .i64 m, .int .i64 n, .bool false, .bool true, .bool true]] w fun e w' => e = .returned (.string (txt (dec m) ++ ⟨#[46]⟩ ++ txt (dec n) ++ txt [45, 119, 107])) ∧ Below w.heap.size w w' := by
  have H1 := itoa_any m hm
  have H2 := itoa_any n hn
  have z1 := dec_sz m
  have z2 := dec_sz n
  have z3 : (txt [45, 119, 107]).size ≤ 3 := by rw [txt_size]; simp
  generalize txt (dec m) = D1 at *
  generalize txt (dec n) = D2 at *
  have H1' := hid H1
  have H2' := hid H2
  clear H1 H2
  have kc := Lib.run_convert_bytes_const (P := Tryd.prog) (w.alloc (.cells #[.int .i64 m, .int .i64 n, .bool false, .bool true, .bool true] 164)) 22 5 #[.int .u8 45, .int .u8 45, .int .u8 45] 3 3 Tryd.underlying22 Tryd.underlying5
  simp only [World.size_alloc, List.size_toArray, List.length_cons, List.length_nil, Nat.reduceAdd] at kc
  have hz0 := fun C => unmarked w (.cells #[.int .i64 m, .int .i64 n, .bool false, .bool true, .bool true] 164) C 5 0 (by decide)
  have hz1 := fun C => unmarked w (.cells #[.int .i64 m, .int .i64 n, .bool false, .bool true, .bool true] 164) C 5 1 (by decide)
  have hz2 := fun C => unmarked w (.cells #[.int .i64 m, .int .i64 n, .bool false, .bool true, .bool true] 164) C 5 2 (by decide)
  have hy := fun C => marked w (.cells #[.int .i64 m, .int .i64 n, .bool false, .bool true, .bool true] 164) C 5
  go_enter Tryd.func163, Tryd.ntmps163
  go_wp2_with fail
  refine named (p := fun W => Code.wp _ _ _ _ W) _ ?_
  intro W hW
  have tt : Below w.heap.size w W := by
    rw [← hW]
    exact ((((Below.refl _ _).alloc (Nat.le_refl _) _).alloc (by simp) _).setCell (p := ⟨w.heap.size + 1, 1, none⟩) (show w.heap.size ≤ w.heap.size + 1 by omega) _).setCell (p := ⟨w.heap.size + 1, 2, none⟩) (show w.heap.size ≤ w.heap.size + 1 by omega) _
  have hA : W.heap[w.heap.size]? = some (.cells #[.int .i64 m, .int .i64 n, .bool false, .bool true, .bool true] 164 (0, 0)) := by
    rw [← hW]
    exact own_set_ne (own_set_ne (own_alloc (own_new _ _) _) (p := ⟨w.heap.size + 1, 1, none⟩) (show w.heap.size + 1 ≠ w.heap.size by omega) _) (p := ⟨w.heap.size + 1, 2, none⟩) (show w.heap.size + 1 ≠ w.heap.size by omega) _
  have hL : W.heap[w.heap.size + 1]? = some (.cells #[.int .u8 45, .int .u8 119, .int .u8 107] 5 (3, 4)) := by
    rw [← hW]
    have h := own_new (w.alloc (.cells #[.int .i64 m, .int .i64 n, .bool false, .bool true, .bool true] 164)) (.cells #[.int .u8 45, .int .u8 45, .int .u8 45] 5 (3, 4))
    simp only [World.size_alloc] at h
    exact own_set (own_set (h) 1 _) 2 _
  clear hW kc hz0 hz1 hz2 hy
  have hcv := fun u (hu : Below W.heap.size W u) => conv_three (P := Tryd.prog) (T := 9) (a := 45) (b := 119) (c := 107) Tryd.underlying22 Tryd.underlying5 Tryd.underlying9 (own_below hu hL) rfl rfl rfl
  generalize hF : txt [45, 119, 107] = F at hcv z3
  have HF := hid hF
  clear hF
  have q1 : ¬ 9223372036854775807 < D1.size + 1 := by omega
  have q2 : ¬ 9223372036854775807 < D1.size + 1 + D2.size := by omega
  have q3 : ¬ 9223372036854775807 < D1.size + 1 + D2.size + F.size := by omega
  have hcv' := hid hcv
  clear z1 z2 z3 hL hcv
  refine wp_region_quiet_below (by kernel_rfl) (by kernel_rfl) ?_
  repeat (first
    | (refine qskip rfl (fun K hK => ?_); go_simp; refine hK _ ?_; clear hK K)
    | (apply qval rfl; (case h => (intro u hu; obtain ⟨_, _⟩ := own_cells (own_below hu hA); have hcv := hcv'.out u hu; go_simp; exact rfl)); (intro K hK; go_simp; refine hK _ ?_; clear hK K))
    | (apply qcall rfl; (case h => (intro u hu; go_simp; exact ⟨rfl, rfl⟩)); (case hc => (intro u hu; with_reducible exact Calls.in_same hu (H1'.out _))); (intro K hK; go_simp; refine hK _ ?_; clear hK K))
    | (apply qcall rfl; (case h => (intro u hu; go_simp; exact ⟨rfl, rfl⟩)); (case hc => (intro u hu; with_reducible exact Calls.in_same hu (H2'.out _))); (intro K hK; go_simp; refine hK _ ?_; clear hK K)))
  refine wpQuiet_nil ?_
  intro u hu
  go_wp2_with fail
  rw [HF.out]
  exact bodyPost_ret (v := .string (D1 ++ ⟨#[46]⟩ ++ D2 ++ F)) (by simp only [results, Tryd.results163]; go_simp) rfl ⟨rfl, tt.trans (hu.mono tt.size)⟩
set_option maxHeartbeats 2000000 in
theorem text_100 (m n : Nat) (hm : m < 100) (hn : n < 100) (w : World) :
    Calls Tryd.prog 163 #[.agg #[.int .i64 m, .int .i64 n, .bool true, .bool false, .bool false]] w fun e w' => e = .returned (.string (txt (dec m) ++ ⟨#[46]⟩ ++ txt (dec n) ++ txt [114, 45, 45])) ∧ Below w.heap.size w w' := by
  have H1 := itoa_any m hm
  have H2 := itoa_any n hn
  have z1 := dec_sz m
  have z2 := dec_sz n
  have z3 : (txt [114, 45, 45]).size ≤ 3 := by rw [txt_size]; simp
  generalize txt (dec m) = D1 at *
  generalize txt (dec n) = D2 at *
  have H1' := hid H1
  have H2' := hid H2
  clear H1 H2
  have kc := Lib.run_convert_bytes_const (P := Tryd.prog) (w.alloc (.cells #[.int .i64 m, .int .i64 n, .bool true, .bool false, .bool false] 164)) 22 5 #[.int .u8 45, .int .u8 45, .int .u8 45] 3 3 Tryd.underlying22 Tryd.underlying5
  simp only [World.size_alloc, List.size_toArray, List.length_cons, List.length_nil, Nat.reduceAdd] at kc
  have hz0 := fun C => unmarked w (.cells #[.int .i64 m, .int .i64 n, .bool true, .bool false, .bool false] 164) C 5 0 (by decide)
  have hz1 := fun C => unmarked w (.cells #[.int .i64 m, .int .i64 n, .bool true, .bool false, .bool false] 164) C 5 1 (by decide)
  have hz2 := fun C => unmarked w (.cells #[.int .i64 m, .int .i64 n, .bool true, .bool false, .bool false] 164) C 5 2 (by decide)
  have hy := fun C => marked w (.cells #[.int .i64 m, .int .i64 n, .bool true, .bool false, .bool false] 164) C 5
  go_enter Tryd.func163, Tryd.ntmps163
  go_wp2_with fail
  refine named (p := fun W => Code.wp _ _ _ _ W) _ ?_
  intro W hW
  have tt : Below w.heap.size w W := by
    rw [← hW]
    exact (((Below.refl _ _).alloc (Nat.le_refl _) _).alloc (by simp) _).setCell (p := ⟨w.heap.size + 1, 0, none⟩) (show w.heap.size ≤ w.heap.size + 1 by omega) _
  have hA : W.heap[w.heap.size]? = some (.cells #[.int .i64 m, .int .i64 n, .bool true, .bool false, .bool false] 164 (0, 0)) := by
    rw [← hW]
    exact own_set_ne (own_alloc (own_new _ _) _) (p := ⟨w.heap.size + 1, 0, none⟩) (show w.heap.size + 1 ≠ w.heap.size by omega) _
  have hL : W.heap[w.heap.size + 1]? = some (.cells #[.int .u8 114, .int .u8 45, .int .u8 45] 5 (3, 4)) := by
    rw [← hW]
    have h := own_new (w.alloc (.cells #[.int .i64 m, .int .i64 n, .bool true, .bool false, .bool false] 164)) (.cells #[.int .u8 45, .int .u8 45, .int .u8 45] 5 (3, 4))
    simp only [World.size_alloc] at h
    exact own_set (h) 0 _
  clear hW kc hz0 hz1 hz2 hy
  have hcv := fun u (hu : Below W.heap.size W u) => conv_three (P := Tryd.prog) (T := 9) (a := 114) (b := 45) (c := 45) Tryd.underlying22 Tryd.underlying5 Tryd.underlying9 (own_below hu hL) rfl rfl rfl
  generalize hF : txt [114, 45, 45] = F at hcv z3
  have HF := hid hF
  clear hF
  have q1 : ¬ 9223372036854775807 < D1.size + 1 := by omega
  have q2 : ¬ 9223372036854775807 < D1.size + 1 + D2.size := by omega
  have q3 : ¬ 9223372036854775807 < D1.size + 1 + D2.size + F.size := by omega
  have hcv' := hid hcv
  clear z1 z2 z3 hL hcv
  refine wp_region_quiet_below (by kernel_rfl) (by kernel_rfl) ?_
  repeat (first
    | (refine qskip rfl (fun K hK => ?_); go_simp; refine hK _ ?_; clear hK K)
    | (apply qval rfl; (case h => (intro u hu; obtain ⟨_, _⟩ := own_cells (own_below hu hA); have hcv := hcv'.out u hu; go_simp; exact rfl)); (intro K hK; go_simp; refine hK _ ?_; clear hK K))
    | (apply qcall rfl; (case h => (intro u hu; go_simp; exact ⟨rfl, rfl⟩)); (case hc => (intro u hu; with_reducible exact Calls.in_same hu (H1'.out _))); (intro K hK; go_simp; refine hK _ ?_; clear hK K))
    | (apply qcall rfl; (case h => (intro u hu; go_simp; exact ⟨rfl, rfl⟩)); (case hc => (intro u hu; with_reducible exact Calls.in_same hu (H2'.out _))); (intro K hK; go_simp; refine hK _ ?_; clear hK K)))
  refine wpQuiet_nil ?_
  intro u hu
  go_wp2_with fail
  rw [HF.out]
  exact bodyPost_ret (v := .string (D1 ++ ⟨#[46]⟩ ++ D2 ++ F)) (by simp only [results, Tryd.results163]; go_simp) rfl ⟨rfl, tt.trans (hu.mono tt.size)⟩
set_option maxHeartbeats 2000000 in
theorem text_101 (m n : Nat) (hm : m < 100) (hn : n < 100) (w : World) :
    Calls Tryd.prog 163 #[.agg #[.int .i64 m, .int .i64 n, .bool true, .bool false, .bool true]] w fun e w' => e = .returned (.string (txt (dec m) ++ ⟨#[46]⟩ ++ txt (dec n) ++ txt [114, 45, 107])) ∧ Below w.heap.size w w' := by
  have H1 := itoa_any m hm
  have H2 := itoa_any n hn
  have z1 := dec_sz m
  have z2 := dec_sz n
  have z3 : (txt [114, 45, 107]).size ≤ 3 := by rw [txt_size]; simp
  generalize txt (dec m) = D1 at *
  generalize txt (dec n) = D2 at *
  have H1' := hid H1
  have H2' := hid H2
  clear H1 H2
  have kc := Lib.run_convert_bytes_const (P := Tryd.prog) (w.alloc (.cells #[.int .i64 m, .int .i64 n, .bool true, .bool false, .bool true] 164)) 22 5 #[.int .u8 45, .int .u8 45, .int .u8 45] 3 3 Tryd.underlying22 Tryd.underlying5
  simp only [World.size_alloc, List.size_toArray, List.length_cons, List.length_nil, Nat.reduceAdd] at kc
  have hz0 := fun C => unmarked w (.cells #[.int .i64 m, .int .i64 n, .bool true, .bool false, .bool true] 164) C 5 0 (by decide)
  have hz1 := fun C => unmarked w (.cells #[.int .i64 m, .int .i64 n, .bool true, .bool false, .bool true] 164) C 5 1 (by decide)
  have hz2 := fun C => unmarked w (.cells #[.int .i64 m, .int .i64 n, .bool true, .bool false, .bool true] 164) C 5 2 (by decide)
  have hy := fun C => marked w (.cells #[.int .i64 m, .int .i64 n, .bool true, .bool false, .bool true] 164) C 5
  go_enter Tryd.func163, Tryd.ntmps163
  go_wp2_with fail
  refine named (p := fun W => Code.wp _ _ _ _ W) _ ?_
  intro W hW
  have tt : Below w.heap.size w W := by
    rw [← hW]
    exact ((((Below.refl _ _).alloc (Nat.le_refl _) _).alloc (by simp) _).setCell (p := ⟨w.heap.size + 1, 0, none⟩) (show w.heap.size ≤ w.heap.size + 1 by omega) _).setCell (p := ⟨w.heap.size + 1, 2, none⟩) (show w.heap.size ≤ w.heap.size + 1 by omega) _
  have hA : W.heap[w.heap.size]? = some (.cells #[.int .i64 m, .int .i64 n, .bool true, .bool false, .bool true] 164 (0, 0)) := by
    rw [← hW]
    exact own_set_ne (own_set_ne (own_alloc (own_new _ _) _) (p := ⟨w.heap.size + 1, 0, none⟩) (show w.heap.size + 1 ≠ w.heap.size by omega) _) (p := ⟨w.heap.size + 1, 2, none⟩) (show w.heap.size + 1 ≠ w.heap.size by omega) _
  have hL : W.heap[w.heap.size + 1]? = some (.cells #[.int .u8 114, .int .u8 45, .int .u8 107] 5 (3, 4)) := by
    rw [← hW]
    have h := own_new (w.alloc (.cells #[.int .i64 m, .int .i64 n, .bool true, .bool false, .bool true] 164)) (.cells #[.int .u8 45, .int .u8 45, .int .u8 45] 5 (3, 4))
    simp only [World.size_alloc] at h
    exact own_set (own_set (h) 0 _) 2 _
  clear hW kc hz0 hz1 hz2 hy
  have hcv := fun u (hu : Below W.heap.size W u) => conv_three (P := Tryd.prog) (T := 9) (a := 114) (b := 45) (c := 107) Tryd.underlying22 Tryd.underlying5 Tryd.underlying9 (own_below hu hL) rfl rfl rfl
  generalize hF : txt [114, 45, 107] = F at hcv z3
  have HF := hid hF
  clear hF
  have q1 : ¬ 9223372036854775807 < D1.size + 1 := by omega
  have q2 : ¬ 9223372036854775807 < D1.size + 1 + D2.size := by omega
  have q3 : ¬ 9223372036854775807 < D1.size + 1 + D2.size + F.size := by omega
  have hcv' := hid hcv
  clear z1 z2 z3 hL hcv
  refine wp_region_quiet_below (by kernel_rfl) (by kernel_rfl) ?_
  repeat (first
    | (refine qskip rfl (fun K hK => ?_); go_simp; refine hK _ ?_; clear hK K)
    | (apply qval rfl; (case h => (intro u hu; obtain ⟨_, _⟩ := own_cells (own_below hu hA); have hcv := hcv'.out u hu; go_simp; exact rfl)); (intro K hK; go_simp; refine hK _ ?_; clear hK K))
    | (apply qcall rfl; (case h => (intro u hu; go_simp; exact ⟨rfl, rfl⟩)); (case hc => (intro u hu; with_reducible exact Calls.in_same hu (H1'.out _))); (intro K hK; go_simp; refine hK _ ?_; clear hK K))
    | (apply qcall rfl; (case h => (intro u hu; go_simp; exact ⟨rfl, rfl⟩)); (case hc => (intro u hu; with_reducible exact Calls.in_same hu (H2'.out _))); (intro K hK; go_simp; refine hK _ ?_; clear hK K)))
  refine wpQuiet_nil ?_
  intro u hu
  go_wp2_with fail
  rw [HF.out]
  exact bodyPost_ret (v := .string (D1 ++ ⟨#[46]⟩ ++ D2 ++ F)) (by simp only [results, Tryd.results163]; go_simp) rfl ⟨rfl, tt.trans (hu.mono tt.size)⟩
set_option maxHeartbeats 2000000 in
theorem text_110 (m n : Nat) (hm : m < 100) (hn : n < 100) (w : World) :
    Calls Tryd.prog 163 #[.agg #[.int .i64 m, .int .i64 n, .bool true, .bool true, .bool false]] w fun e w' => e = .returned (.string (txt (dec m) ++ ⟨#[46]⟩ ++ txt (dec n) ++ txt [114, 119, 45])) ∧ Below w.heap.size w w' := by
  have H1 := itoa_any m hm
  have H2 := itoa_any n hn
  have z1 := dec_sz m
  have z2 := dec_sz n
  have z3 : (txt [114, 119, 45]).size ≤ 3 := by rw [txt_size]; simp
  generalize txt (dec m) = D1 at *
  generalize txt (dec n) = D2 at *
  have H1' := hid H1
  have H2' := hid H2
  clear H1 H2
  have kc := Lib.run_convert_bytes_const (P := Tryd.prog) (w.alloc (.cells #[.int .i64 m, .int .i64 n, .bool true, .bool true, .bool false] 164)) 22 5 #[.int .u8 45, .int .u8 45, .int .u8 45] 3 3 Tryd.underlying22 Tryd.underlying5
  simp only [World.size_alloc, List.size_toArray, List.length_cons, List.length_nil, Nat.reduceAdd] at kc
  have hz0 := fun C => unmarked w (.cells #[.int .i64 m, .int .i64 n, .bool true, .bool true, .bool false] 164) C 5 0 (by decide)
  have hz1 := fun C => unmarked w (.cells #[.int .i64 m, .int .i64 n, .bool true, .bool true, .bool false] 164) C 5 1 (by decide)
  have hz2 := fun C => unmarked w (.cells #[.int .i64 m, .int .i64 n, .bool true, .bool true, .bool false] 164) C 5 2 (by decide)
  have hy := fun C => marked w (.cells #[.int .i64 m, .int .i64 n, .bool true, .bool true, .bool false] 164) C 5
  go_enter Tryd.func163, Tryd.ntmps163
  go_wp2_with fail
  refine named (p := fun W => Code.wp _ _ _ _ W) _ ?_
  intro W hW
  have tt : Below w.heap.size w W := by
    rw [← hW]
    exact ((((Below.refl _ _).alloc (Nat.le_refl _) _).alloc (by simp) _).setCell (p := ⟨w.heap.size + 1, 0, none⟩) (show w.heap.size ≤ w.heap.size + 1 by omega) _).setCell (p := ⟨w.heap.size + 1, 1, none⟩) (show w.heap.size ≤ w.heap.size + 1 by omega) _
  have hA : W.heap[w.heap.size]? = some (.cells #[.int .i64 m, .int .i64 n, .bool true, .bool true, .bool false] 164 (0, 0)) := by
    rw [← hW]
    exact own_set_ne (own_set_ne (own_alloc (own_new _ _) _) (p := ⟨w.heap.size + 1, 0, none⟩) (show w.heap.size + 1 ≠ w.heap.size by omega) _) (p := ⟨w.heap.size + 1, 1, none⟩) (show w.heap.size + 1 ≠ w.heap.size by omega) _
  have hL : W.heap[w.heap.size + 1]? = some (.cells #[.int .u8 114, .int .u8 119, .int .u8 45] 5 (3, 4)) := by
    rw [← hW]
    have h := own_new (w.alloc (.cells #[.int .i64 m, .int .i64 n, .bool true, .bool true, .bool false] 164)) (.cells #[.int .u8 45, .int .u8 45, .int .u8 45] 5 (3, 4))
    simp only [World.size_alloc] at h
    exact own_set (own_set (h) 0 _) 1 _
  clear hW kc hz0 hz1 hz2 hy
  have hcv := fun u (hu : Below W.heap.size W u) => conv_three (P := Tryd.prog) (T := 9) (a := 114) (b := 119) (c := 45) Tryd.underlying22 Tryd.underlying5 Tryd.underlying9 (own_below hu hL) rfl rfl rfl
  generalize hF : txt [114, 119, 45] = F at hcv z3
  have HF := hid hF
  clear hF
  have q1 : ¬ 9223372036854775807 < D1.size + 1 := by omega
  have q2 : ¬ 9223372036854775807 < D1.size + 1 + D2.size := by omega
  have q3 : ¬ 9223372036854775807 < D1.size + 1 + D2.size + F.size := by omega
  have hcv' := hid hcv
  clear z1 z2 z3 hL hcv
  refine wp_region_quiet_below (by kernel_rfl) (by kernel_rfl) ?_
  repeat (first
    | (refine qskip rfl (fun K hK => ?_); go_simp; refine hK _ ?_; clear hK K)
    | (apply qval rfl; (case h => (intro u hu; obtain ⟨_, _⟩ := own_cells (own_below hu hA); have hcv := hcv'.out u hu; go_simp; exact rfl)); (intro K hK; go_simp; refine hK _ ?_; clear hK K))
    | (apply qcall rfl; (case h => (intro u hu; go_simp; exact ⟨rfl, rfl⟩)); (case hc => (intro u hu; with_reducible exact Calls.in_same hu (H1'.out _))); (intro K hK; go_simp; refine hK _ ?_; clear hK K))
    | (apply qcall rfl; (case h => (intro u hu; go_simp; exact ⟨rfl, rfl⟩)); (case hc => (intro u hu; with_reducible exact Calls.in_same hu (H2'.out _))); (intro K hK; go_simp; refine hK _ ?_; clear hK K)))
  refine wpQuiet_nil ?_
  intro u hu
  go_wp2_with fail
  rw [HF.out]
  exact bodyPost_ret (v := .string (D1 ++ ⟨#[46]⟩ ++ D2 ++ F)) (by simp only [results, Tryd.results163]; go_simp) rfl ⟨rfl, tt.trans (hu.mono tt.size)⟩
set_option maxHeartbeats 2000000 in
theorem text_111 (m n : Nat) (hm : m < 100) (hn : n < 100) (w : World) :
    Calls Tryd.prog 163 #[.agg #[.int .i64 m, .int .i64 n, .bool true, .bool true, .bool true]] w fun e w' => e = .returned (.string (txt (dec m) ++ ⟨#[46]⟩ ++ txt (dec n) ++ txt [114, 119, 107])) ∧ Below w.heap.size w w' := by
  have H1 := itoa_any m hm
  have H2 := itoa_any n hn
  have z1 := dec_sz m
  have z2 := dec_sz n
  have z3 : (txt [114, 119, 107]).size ≤ 3 := by rw [txt_size]; simp
  generalize txt (dec m) = D1 at *
  generalize txt (dec n) = D2 at *
  have H1' := hid H1
  have H2' := hid H2
  clear H1 H2
  have kc := Lib.run_convert_bytes_const (P := Tryd.prog) (w.alloc (.cells #[.int .i64 m, .int .i64 n, .bool true, .bool true, .bool true] 164)) 22 5 #[.int .u8 45, .int .u8 45, .int .u8 45] 3 3 Tryd.underlying22 Tryd.underlying5
  simp only [World.size_alloc, List.size_toArray, List.length_cons, List.length_nil, Nat.reduceAdd] at kc
  have hz0 := fun C => unmarked w (.cells #[.int .i64 m, .int .i64 n, .bool true, .bool true, .bool true] 164) C 5 0 (by decide)
  have hz1 := fun C => unmarked w (.cells #[.int .i64 m, .int .i64 n, .bool true, .bool true, .bool true] 164) C 5 1 (by decide)
  have hz2 := fun C => unmarked w (.cells #[.int .i64 m, .int .i64 n, .bool true, .bool true, .bool true] 164) C 5 2 (by decide)
  have hy := fun C => marked w (.cells #[.int .i64 m, .int .i64 n, .bool true, .bool true, .bool true] 164) C 5
  go_enter Tryd.func163, Tryd.ntmps163
  go_wp2_with fail
  refine named (p := fun W => Code.wp _ _ _ _ W) _ ?_
  intro W hW
  have tt : Below w.heap.size w W := by
    rw [← hW]
    exact (((((Below.refl _ _).alloc (Nat.le_refl _) _).alloc (by simp) _).setCell (p := ⟨w.heap.size + 1, 0, none⟩) (show w.heap.size ≤ w.heap.size + 1 by omega) _).setCell (p := ⟨w.heap.size + 1, 1, none⟩) (show w.heap.size ≤ w.heap.size + 1 by omega) _).setCell (p := ⟨w.heap.size + 1, 2, none⟩) (show w.heap.size ≤ w.heap.size + 1 by omega) _
  have hA : W.heap[w.heap.size]? = some (.cells #[.int .i64 m, .int .i64 n, .bool true, .bool true, .bool true] 164 (0, 0)) := by
    rw [← hW]
    exact own_set_ne (own_set_ne (own_set_ne (own_alloc (own_new _ _) _) (p := ⟨w.heap.size + 1, 0, none⟩) (show w.heap.size + 1 ≠ w.heap.size by omega) _) (p := ⟨w.heap.size + 1, 1, none⟩) (show w.heap.size + 1 ≠ w.heap.size by omega) _) (p := ⟨w.heap.size + 1, 2, none⟩) (show w.heap.size + 1 ≠ w.heap.size by omega) _
  have hL : W.heap[w.heap.size + 1]? = some (.cells #[.int .u8 114, .int .u8 119, .int .u8 107] 5 (3, 4)) := by
    rw [← hW]
    have h := own_new (w.alloc (.cells #[.int .i64 m, .int .i64 n, .bool true, .bool true, .bool true] 164)) (.cells #[.int .u8 45, .int .u8 45, .int .u8 45] 5 (3, 4))
    simp only [World.size_alloc] at h
    exact own_set (own_set (own_set (h) 0 _) 1 _) 2 _
  clear hW kc hz0 hz1 hz2 hy
  have hcv := fun u (hu : Below W.heap.size W u) => conv_three (P := Tryd.prog) (T := 9) (a := 114) (b := 119) (c := 107) Tryd.underlying22 Tryd.underlying5 Tryd.underlying9 (own_below hu hL) rfl rfl rfl
  generalize hF : txt [114, 119, 107] = F at hcv z3
  have HF := hid hF
  clear hF
  have q1 : ¬ 9223372036854775807 < D1.size + 1 := by omega
  have q2 : ¬ 9223372036854775807 < D1.size + 1 + D2.size := by omega
  have q3 : ¬ 9223372036854775807 < D1.size + 1 + D2.size + F.size := by omega
  have hcv' := hid hcv
  clear z1 z2 z3 hL hcv
  refine wp_region_quiet_below (by kernel_rfl) (by kernel_rfl) ?_
  repeat (first
    | (refine qskip rfl (fun K hK => ?_); go_simp; refine hK _ ?_; clear hK K)
    | (apply qval rfl; (case h => (intro u hu; obtain ⟨_, _⟩ := own_cells (own_below hu hA); have hcv := hcv'.out u hu; go_simp; exact rfl)); (intro K hK; go_simp; refine hK _ ?_; clear hK K))
    | (apply qcall rfl; (case h => (intro u hu; go_simp; exact ⟨rfl, rfl⟩)); (case hc => (intro u hu; with_reducible exact Calls.in_same hu (H1'.out _))); (intro K hK; go_simp; refine hK _ ?_; clear hK K))
    | (apply qcall rfl; (case h => (intro u hu; go_simp; exact ⟨rfl, rfl⟩)); (case hc => (intro u hu; with_reducible exact Calls.in_same hu (H2'.out _))); (intro K hK; go_simp; refine hK _ ?_; clear hK K)))
  refine wpQuiet_nil ?_
  intro u hu
  go_wp2_with fail
  rw [HF.out]
  exact bodyPost_ret (v := .string (D1 ++ ⟨#[46]⟩ ++ D2 ++ F)) (by simp only [results, Tryd.results163]; go_simp) rfl ⟨rfl, tt.trans (hu.mono tt.size)⟩
theorem text_some (m n : Nat) (r wr k : Bool) (hm : m < 100) (hn : n < 100) (w : World) :
    Calls Tryd.prog 163 #[.agg #[.int .i64 m, .int .i64 n, .bool r, .bool wr, .bool k]] w fun e w' => e = .returned (.string (txt (dec m ++ [46] ++ dec n ++ [flc r 114] ++ [flc wr 119] ++ [flc k 107]))) ∧ Below w.heap.size w w' := by
  have h : ∀ a b c : UInt8, txt (dec m ++ [46] ++ dec n ++ [a] ++ [b] ++ [c]) = txt (dec m) ++ ⟨#[46]⟩ ++ txt (dec n) ++ txt [a, b, c] := by
    intro a b c
    rw [show (⟨#[46]⟩ : ByteArray) = txt [46] from rfl, txt_append, txt_append, txt_append]
    simp
  rw [h]
  cases r <;> cases wr <;> cases k
  · exact text_000 m n hm hn w
  · exact text_001 m n hm hn w
  · exact text_010 m n hm hn w
  · exact text_011 m n hm hn w
  · exact text_100 m n hm hn w
  · exact text_101 m n hm hn w
  · exact text_110 m n hm hn w
  · exact text_111 m n hm hn w
end Go.Proofs.YtcgmnpppdoadhaaDoor
