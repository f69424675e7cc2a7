/- Contracts of the texts of rights, of the program and of the reference: each computes its plain list of bytes and makes at most new blocks. No condition. -/
import Derived.Test.YtcgmnpppdoadhaaDoorTxt
import Derived.Test.YtcgmnpppdoadhaaDoorRgt2
import Derived.Lib.SlBytesConst
namespace Go.Proofs.YtcgmnpppdoadhaaDoor
set_option maxRecDepth 100000
open Go.RowKit
set_option linter.unusedVariables false

/-- A flag's letter, or a dash. -/
def flc (b : Bool) (c : UInt8) : UInt8 := if b then c else 45
def rgtTxt (t v : Int) (r w k : Bool) : List UInt8 :=
  if rgtOk t v r w k then (if t == 0 then [45] else dec t.toNat ++ [46] ++ dec v.toNat ++ [flc r 114] ++ [flc w 119] ++ [flc k 107]) else []
theorem rgtOk_bd {t v : Int} {r w k : Bool} (h : rgtOk t v r w k = true) : 0 ≤ t ∧ t ≤ 8 ∧ 0 ≤ v ∧ v ≤ 5 := by
  simp [rgtOk, rgtNull, inB] at h; omega
theorem l2Flag_any (b : Bool) (c : UInt8) (w : World) :
    Calls Tryd.prog 111 #[.bool b, .string ⟨#[c]⟩] w fun e w' => e = .returned (.string (txt [flc b c])) ∧ w = w' := by
  cases b
  · go_enter Tryd.func111, Tryd.ntmps111
    go_wp2_with fail
    go_ret
    exact ⟨rfl, rfl⟩
  · go_enter Tryd.func111, Tryd.ntmps111
    go_wp2_with fail
    go_ret
    exact ⟨rfl, rfl⟩
set_option maxHeartbeats 2000000 in
theorem srightText_any (t v : Int) (r wr k : Bool) (w : World) :
    Calls Tryd.prog 100 #[.agg #[.int .i64 t, .int .i64 v, .bool r, .bool wr, .bool k]] w fun e w' => e = .returned (.string (txt (rgtTxt t v r wr k))) ∧ Below w.heap.size w w' := by
  have tt : Below w.heap.size w w := Below.refl _ _
  have hA := own_new w (.cells #[.int .i64 t, .int .i64 v, .bool r, .bool wr, .bool k] 38)
  cases e1 : rgtOk t v r wr k
  · have e2 : rgtTxt t v r wr k = [] := by simp [rgtTxt, e1]
    rw [e2]
    go_enter Tryd.func100, Tryd.ntmps100
    go_wp2_with fail
    refine (srightOk_any _ _ _ _ _ _).mono ?_
    rintro e w' ⟨rfl, hb⟩
    (try clear cc_hA ff_hA); (try clear zz_hA zy_hA)
    have zt := tt.size
    replace tt : Below w.heap.size w w' := by (refine Below.trans ?_ (hb.mono ?_)); (all_goals (repeat (first | with_reducible exact tt | (with_reducible refine Below.setCell ?_ ?_ _) | (with_reducible refine Below.alloc ?_ ?_ _) | with_reducible refine Below.drew ?_)); (all_goals (first | omega | (simp <;> omega))))
    clear zt
    replace hA := own_below hb (by repeat (first | exact hA | apply own_alloc))
    obtain ⟨cc_hA, ff_hA⟩ := own_cells hA; have zz_hA := own_lt hA; have zy_hA := Nat.lt_add_right 1 (own_lt hA)
    clear hb
    go_wp2_with fail
    go_ret
    exact ⟨rfl, tt⟩
  obtain ⟨b1, b2, b3, b4⟩ := rgtOk_bd e1
  cases e3 : (t == 0)
  · obtain ⟨m, rfl⟩ := Int.eq_ofNat_of_zero_le b1
    obtain ⟨n, rfl⟩ := Int.eq_ofNat_of_zero_le b3
    have e2 : txt (rgtTxt m n r wr k) = txt (dec m) ++ txt [46] ++ txt (dec n) ++ txt [flc r 114] ++ txt [flc wr 119] ++ txt [flc k 107] := by simp [rgtTxt, e1, e3, txt_append]
    rw [e2]
    have H1 := l6Dec_any m (by omega)
    have H2 := l6Dec_any n (by omega)
    have H3 := l2Flag_any r 114
    have H4 := l2Flag_any wr 119
    have H5 := l2Flag_any k 107
    have z1 := dec_sz m
    have z2 := dec_sz n
    have z3 : (txt [flc r 114]).size ≤ 2 := by rw [txt_size]; simp
    have z4 : (txt [flc wr 119]).size ≤ 2 := by rw [txt_size]; simp
    have z5 : (txt [flc k 107]).size ≤ 2 := by rw [txt_size]; simp
    generalize txt (dec m) = D1 at *
    generalize txt (dec n) = D2 at *
    generalize txt [flc r 114] = F1 at *
    generalize txt [flc wr 119] = F2 at *
    generalize txt [flc k 107] = F3 at *
    have q1 : ¬ 9223372036854775807 < D1.size + 1 := by omega
    have q2 : ¬ 9223372036854775807 < D1.size + 1 + D2.size := by omega
    have q3 : ¬ 9223372036854775807 < D1.size + 1 + D2.size + F1.size := by omega
    have q4 : ¬ 9223372036854775807 < D1.size + 1 + D2.size + F1.size + F2.size := by omega
    have q5 : ¬ 9223372036854775807 < D1.size + 1 + D2.size + F1.size + F2.size + F3.size := by omega
    have H1' := hid H1
    have H2' := hid H2
    have H3' := hid H3
    have H4' := hid H4
    have H5' := hid H5
    clear H1 H2 H3 H4 H5 z1 z2 z3 z4 z5 e2
    go_enter Tryd.func100, Tryd.ntmps100
    go_wp2_with fail
    refine (srightOk_any _ _ _ _ _ _).mono ?_
    rintro e w' ⟨rfl, hb⟩
    (try clear cc_hA ff_hA); (try clear zz_hA zy_hA)
    have zt := tt.size
    replace tt : Below w.heap.size w w' := by (refine Below.trans ?_ (hb.mono ?_)); (all_goals (repeat (first | with_reducible exact tt | (with_reducible refine Below.setCell ?_ ?_ _) | (with_reducible refine Below.alloc ?_ ?_ _) | with_reducible refine Below.drew ?_)); (all_goals (first | omega | (simp <;> omega))))
    clear zt
    replace hA := own_below hb (by repeat (first | exact hA | apply own_alloc))
    obtain ⟨cc_hA, ff_hA⟩ := own_cells hA; have zz_hA := own_lt hA; have zy_hA := Nat.lt_add_right 1 (own_lt hA)
    clear hb
    go_wp2_with fail
    refine named (p := fun W => Code.wp _ _ _ _ W) _ ?_
    intro W hW
    (try clear cc_hA ff_hA); (try clear zz_hA zy_hA)
    have zt := tt.size
    replace tt : Below w.heap.size w W := by
      rw [← hW]
      (repeat (first | with_reducible exact tt | (with_reducible refine Below.setCell ?_ ?_ _) | (with_reducible refine Below.alloc ?_ ?_ _) | with_reducible refine Below.drew ?_)); (all_goals (first | omega | (simp <;> omega)))
    replace hA := own_eq hW (by repeat (first | exact hA | apply own_alloc))
    clear hW zt
    refine wp_region_quiet_below (by kernel_rfl) (by kernel_rfl) ?_
    repeat (first
      | (refine qskip rfl (fun K hK => ?_); go_simp; refine hK _ ?_; clear hK K)
      | (apply qval rfl; (case h => (intro u hu; obtain ⟨_, _⟩ := own_cells (own_below hu hA); go_simp; exact rfl)); (intro K hK; go_simp; refine hK _ ?_; clear hK K))
      | (apply qcall rfl; (case h => (intro u hu; go_simp; exact ⟨rfl, rfl⟩)); (case hc => (intro u hu; with_reducible exact Calls.in_below hu (H1'.out _))); (intro K hK; go_simp; refine hK _ ?_; clear hK K))
      | (apply qcall rfl; (case h => (intro u hu; go_simp; exact ⟨rfl, rfl⟩)); (case hc => (intro u hu; with_reducible exact Calls.in_below hu (H2'.out _))); (intro K hK; go_simp; refine hK _ ?_; clear hK K))
      | (apply qcall rfl; (case h => (intro u hu; go_simp; exact ⟨rfl, rfl⟩)); (case hc => (intro u hu; with_reducible exact Calls.in_same hu (H3'.out _))); (intro K hK; go_simp; refine hK _ ?_; clear hK K))
      | (apply qcall rfl; (case h => (intro u hu; go_simp; exact ⟨rfl, rfl⟩)); (case hc => (intro u hu; with_reducible exact Calls.in_same hu (H4'.out _))); (intro K hK; go_simp; refine hK _ ?_; clear hK K))
      | (apply qcall rfl; (case h => (intro u hu; go_simp; exact ⟨rfl, rfl⟩)); (case hc => (intro u hu; with_reducible exact Calls.in_same hu (H5'.out _))); (intro K hK; go_simp; refine hK _ ?_; clear hK K)))
    refine wpQuiet_nil ?_
    intro w' hu
    replace tt := tt.trans (hu.mono tt.size)
    replace hA := own_below hu hA
    obtain ⟨cc_hA, ff_hA⟩ := own_cells hA; have zz_hA := own_lt hA; have zy_hA := Nat.lt_add_right 1 (own_lt hA)
    clear hu
    go_wp2_with fail
    go_ret
    exact ⟨rfl, tt⟩
  · have e2 : rgtTxt t v r wr k = [45] := by simp [rgtTxt, e1, e3]
    rw [e2]
    go_enter Tryd.func100, Tryd.ntmps100
    go_wp2_with fail
    refine (srightOk_any _ _ _ _ _ _).mono ?_
    rintro e w' ⟨rfl, hb⟩
    (try clear cc_hA ff_hA); (try clear zz_hA zy_hA)
    have zt := tt.size
    replace tt : Below w.heap.size w w' := by (refine Below.trans ?_ (hb.mono ?_)); (all_goals (repeat (first | with_reducible exact tt | (with_reducible refine Below.setCell ?_ ?_ _) | (with_reducible refine Below.alloc ?_ ?_ _) | with_reducible refine Below.drew ?_)); (all_goals (first | omega | (simp <;> omega))))
    clear zt
    replace hA := own_below hb (by repeat (first | exact hA | apply own_alloc))
    obtain ⟨cc_hA, ff_hA⟩ := own_cells hA; have zz_hA := own_lt hA; have zy_hA := Nat.lt_add_right 1 (own_lt hA)
    clear hb
    go_wp2_with fail
    go_ret
    exact ⟨rfl, tt⟩
theorem text_none (w : World) :
    Calls Tryd.prog 161 #[.agg #[]] w fun e w' => e = .returned (.string (txt [45])) ∧ Below w.heap.size w w' := by
  have tt : Below w.heap.size w w := Below.refl _ _
  go_enter Tryd.func161, Tryd.ntmps161
  go_wp2_with fail
  go_ret
  refine ⟨rfl, ?_⟩
  have zt := tt.size
  (repeat (first | with_reducible exact tt | (with_reducible refine Below.setCell ?_ ?_ _) | (with_reducible refine Below.alloc ?_ ?_ _) | (with_reducible refine Below.drew ?_) | with_reducible refine Below.drewN' ?_ _)); (all_goals (first | omega | (simp <;> omega)))
end Go.Proofs.YtcgmnpppdoadhaaDoor
