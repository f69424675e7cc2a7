/- The reference's texts of tables: contracts of l3Text and TableText. No condition but where the table lies. -/
import Derived.Test.YtcgmnpppdoadhaaDoorTlS
namespace Go.Proofs.YtcgmnpppdoadhaaDoor
set_option maxRecDepth 100000
open Go Go.RowKit
set_option linter.unusedVariables false
set_option linter.unusedSimpArgs false

set_option maxHeartbeats 4000000 in
set_option maxRecDepth 100000 in
theorem l3Text_any (ta : Option Addr) (c : Nat) (ts : List Th) (w : World) (hT : RowT w ta ts) (hok : ∀ t ∈ ts, t.ok = true) (h8 : ts.length ≤ 8) :
    Calls Tryd.prog 34 #[.slice ta ts.length c] w fun e w' => e = .returned (.string (txt (lns ts ts.length))) ∧ Below w.heap.size w w' := by
  have tt : Below w.heap.size w w := Below.refl _ _
  have HLEN := hid (fun k => lns_len (ts := ts) (fun t h => ok_lens (hok t h)) k)
  have HT := hid hT
  have HOK := hid hok
  obtain ⟨n, en⟩ : ∃ n, n = ts.length := ⟨_, rfl⟩
  have EN := hid en
  rw [← en] at h8 ⊢
  clear en hT hok
  go_enter Tryd.func34, Tryd.ntmps34
  go_wp2_with fail
  go_loopw [3, 4] (fun sv i wr => ∃ k : Nat, i = .int .i64 (k : Int) ∧ k ≤ n ∧ Below w.heap.size w wr ∧ ∃ L : List UInt8, sv = .string (txt L) ∧ Hid (L = lns ts k)) (fun _ i _ => ((n : Int) - intOf i).toNat)
  case atStart => exact ⟨0, rfl, by omega, tt, [], rfl, hid rfl⟩
  case round =>
    clear tt
    obtain ⟨k, rfl, hkn, tt, L, rfl, HL⟩ := hrel
    have hLl : L.length ≤ 107 * k := by rw [HL.out]; exact HLEN.out k
    by_cases hk : k < n
    · obtain ⟨b, off, t, rfl, hx, hb, h8t⟩ := HT.out.at (k := k) (by rw [← EN.out]; exact hk)
      have hto := HOK.out t (List.mem_of_getElem? hx)
      have HX := hid hx
      obtain ⟨sa, sc, qa, qc, c0, c1, c2, c3, c4, c5, c6, c7, hR, hQ⟩ := h8t.below tt hb
      have C0 := fun u (hu : Below wr.heap.size wr u) => (hu.cell (p := ⟨b, off + k * 8, none⟩) (Nat.lt_of_lt_of_le hb tt.size)).trans c0
      have C1 := fun u (hu : Below wr.heap.size wr u) => (hu.cell (p := ⟨b, off + k * 8 + 1, none⟩) (Nat.lt_of_lt_of_le hb tt.size)).trans c1
      have C2 := fun u (hu : Below wr.heap.size wr u) => (hu.cell (p := ⟨b, off + k * 8 + 2, none⟩) (Nat.lt_of_lt_of_le hb tt.size)).trans c2
      have C3 := fun u (hu : Below wr.heap.size wr u) => (hu.cell (p := ⟨b, off + k * 8 + 3, none⟩) (Nat.lt_of_lt_of_le hb tt.size)).trans c3
      have C4 := fun u (hu : Below wr.heap.size wr u) => (hu.cell (p := ⟨b, off + k * 8 + 4, none⟩) (Nat.lt_of_lt_of_le hb tt.size)).trans c4
      have C5 := fun u (hu : Below wr.heap.size wr u) => (hu.cell (p := ⟨b, off + k * 8 + 5, none⟩) (Nat.lt_of_lt_of_le hb tt.size)).trans c5
      have C6 := fun u (hu : Below wr.heap.size wr u) => (hu.cell (p := ⟨b, off + k * 8 + 6, none⟩) (Nat.lt_of_lt_of_le hb tt.size)).trans c6
      have C7 := fun u (hu : Below wr.heap.size wr u) => (hu.cell (p := ⟨b, off + k * 8 + 7, none⟩) (Nat.lt_of_lt_of_le hb tt.size)).trans c7
      have CL := hid (fun u (hu : Below wr.heap.size wr u) => l3Thing_any t sa qa sc qc u hto (hR.below hu) (hQ.below hu))
      have CD := hid (fun u => l6DecI_any ((k : Int) + 1) (by omega) (by omega) u)
      have hwk : decI ((k : Int) + 1) = dec (k + 1) := by rw [← decI_nat]; congr 1
      rw [hwk] at CD
      have e2 : txt L ++ txt (dec (k + 1)) ++ ⟨#[32]⟩ ++ txt (l3Th t) = txt (L ++ lineT (k + 1) t) := by
        show txt L ++ txt (dec (k + 1)) ++ txt [32] ++ txt (l3Th t) = _
        rw [txt_append, txt_append, txt_append]
        simp [lineT]
      have E2 := hid e2
      have z1 : (txt L).size ≤ 856 := by rw [txt_size]; omega
      have z2 : (txt (dec (k + 1))).size ≤ 2 := dec_sz _
      have z3 : (txt (l3Th t)).size ≤ 104 := by rw [txt_size]; exact l3Th_len (ok_lens hto).1 (ok_lens hto).2
      have q1 : ¬ 9223372036854775807 < (txt L).size + (txt (dec (k + 1))).size := by omega
      have q2 : ¬ 9223372036854775807 < (txt L).size + (txt (dec (k + 1))).size + 1 := by omega
      have q3 : ¬ 9223372036854775807 < (txt L).size + (txt (dec (k + 1))).size + 1 + (txt (l3Th t)).size := by omega
      have hwk' := wr_small hk (show n ≤ 9223372036854775807 by omega)
      have hwk2 : IntKind.i64.wrap ((k : Int) + 1) = (k : Int) + 1 := wr64 (by omega) (by omega)
      clear hx h8t hR hQ hto hwk e2 c0 c1 c2 c3 c4 c5 c6 c7 z1 z2 z3
      generalize txt L = TL at *
      generalize txt (dec (k + 1)) = DK at *
      generalize txt (l3Th t) = DT at *
      go_upto_region 5 with fail
      refine wp_region_quiet_below (by kernel_rfl) (by kernel_rfl) ?_
      repeat (first
        | ((with_reducible apply qval); (case hw => exact rfl); (case h => (intro u hu; have := C0 u hu; have := C1 u hu; have := C2 u hu; have := C3 u hu; have := C4 u hu; have := C5 u hu; have := C6 u hu; have := C7 u hu; go_simp; exact rfl)); (intro K hK; go_simp; (with_reducible refine hK _ ?_); clear hK K))
        | ((with_reducible apply qcall); (case hw => exact rfl); (case h => (intro u hu; go_simp; exact ⟨rfl, rfl⟩)); (case hc => (intro u hu; first | with_reducible exact Calls.in_below hu (CD.out _) | with_reducible exact Calls.in_below hu (CL.out _ hu))); (intro K hK; go_simp; (with_reducible refine hK _ ?_); clear hK K)))
      refine wpQuiet_nil ?_
      intro u hu
      have tu := tt.trans (hu.mono tt.size)
      clear hu C0 C1 C2 C3 C4 C5 C6 C7
      go_wp2_with fail
      go_roundw
      case rel => exact ⟨k + 1, by go_num, by omega, tu, _, by rw [E2.out], hid (by rw [lns_succ HX.out, HL.out])⟩
      case measure => simp [intOf]; omega
    · obtain rfl : k = n := by omega
      have HE := hid (show txt L = txt (lns ts k) by rw [HL.out])
      go_wp2_with fail
      go_ret
      exact ⟨congrArg (fun s => Ending.returned (.string s)) HE.out, tt⟩
set_option maxHeartbeats 4000000 in
theorem stableText_any (ta : Option Addr) (c : Nat) (ts : List Th) (w : World) (hT : RowT w ta ts) :
    Calls Tryd.prog 16 #[.slice ta ts.length c] w fun e w' => e = .returned (.string (txt (tabTxt ts))) ∧ Below w.heap.size w w' := by
  have CT := hid (fun u (hu : Below w.heap.size w u) => stableOk_any ta c ts u (hT.below hu))
  have tt : Below w.heap.size w w := Below.refl _ _
  cases e0 : tblOk ts
  · have q : tabTxt ts = [] := by simp [tabTxt, e0]
    rw [q]
    rw [e0] at CT
    clear q e0 hT
    generalize ts.length = n at *
    go_enter Tryd.func16, Tryd.ntmps16
    go_wp2_with fail
    refine (CT.out _ tt).mono ?_
    rintro e w1 ⟨rfl, hb⟩
    go_wp2_with fail
    go_ret
    exact ⟨rfl, hb⟩
  · have q : tabTxt ts = lns ts ts.length := by simp [tabTxt, e0]
    have CL := hid (fun u (hu : Below w.heap.size w u) => l3Text_any ta c ts u (hT.below hu) (fun t h => by obtain ⟨k, hk⟩ := List.mem_iff_getElem?.1 h; exact tbl_ok e0 hk) (tbl_len e0).2)
    rw [← q] at CL
    rw [e0] at CT
    clear q e0 hT
    generalize tabTxt ts = L at *
    generalize ts.length = n at *
    go_enter Tryd.func16, Tryd.ntmps16
    go_wp2_with fail
    refine (CT.out _ tt).mono ?_
    rintro e w1 ⟨rfl, hb⟩
    replace tt := tt.trans (hb.mono tt.size)
    clear hb
    go_wp2_with fail
    refine (CL.out _ tt).mono ?_
    rintro e w2 ⟨rfl, hb⟩
    replace tt := tt.trans (hb.mono tt.size)
    clear hb
    go_wp2_with fail
    go_ret
    exact ⟨rfl, tt⟩
end Go.Proofs.YtcgmnpppdoadhaaDoor
