/- The walk of the law FnTableText, on drawn tables. What it asks is that strconv's table lies in its variable. -/
import Derived.Test.YtcgmnpppdoadhaaDoorTlB
import Derived.Test.YtcgmnpppdoadhaaDoorTlT
import Derived.Test.YtcgmnpppdoadhaaDoorTtL
import Derived.Test.YtcgmnpppdoadhaaDoorLdT
import Derived.Test.YtcgmnpppdoadhaaDoorDFn
namespace Go.Proofs.YtcgmnpppdoadhaaDoor
set_option maxRecDepth 100000
open Go Go.RowKit
set_option linter.unusedVariables false
set_option linter.unusedSimpArgs false

theorem txt_tl (l : List UInt8) : (txt l).toList = l := ByteArray.toList_mk l
set_option maxHeartbeats 4000000 in
theorem drawTableText_any (a : Option Addr) (len cap : Nat) (z : List Int) (w : World) (hr : IsRow .u8 w a len cap z) :
    Calls Tryd.prog 13 #[.slice a len cap] w (TabDrawn w) := by
  go_enter Tryd.func13, Tryd.ntmps13
  go_wp2_with fail
  refine (l6Open_any _ _ _ _ _ hr).mono ?_
  rintro e w0 ⟨x, hx0, rfl, r0, b0⟩
  have z0 := b0.size
  try simp at z0
  have lx0 := r0.lt
  try simp at hx0
  have t0 : Kept x w w0 := by
    refine Kept.of_below ?_ b0
    · repeat (first | exact Kept.refl _ _ | refine Kept.alloc ?_ _)
  obtain ⟨c0, f0⟩ := bcell b0
  clear b0 c0 f0
  go_wp2_with fail
  refine (l71Fine_any _ _ _ r0 (by omega) (by omega)).mono ?_
  rintro e w1 ⟨ta, n, c, rfl, h3, h8, hTb, q, hq1, hq2, r1, k1⟩
  replace t0 := t0.trans k1
  go_wp2_with fail
  go_ret
  obtain ⟨ts, hl, _, hT⟩ := hTb.open
  subst hl
  exact ⟨ts, _, _, rfl, h3, h8, hT, t0.below' (by omega)⟩
set_option maxHeartbeats 4000000 in
set_option maxRecDepth 100000 in
theorem fnTableText_walk (v : World) (a : Option Addr) (len cap : Nat) (z : List Int) (hr : IsRow .u8 v a len cap z) (a2 : Option Addr) (len2 cap2 : Nat) (z2 : List Int) (hr2 : IsRow .u8 v a2 len2 cap2 z2) (ht : Tab v) :
    Calls Tryd.prog 4 #[.slice a len cap, .slice a2 len2 cap2] v fun e w' => e = .returned (.bool true) ∧ Below v.heap.size v w' := by
  by_cases hl : 1048576 < len
  · go_enter Tryd.func4, Tryd.ntmps4
    go_wp2_with fail
    go_ret
    exact ⟨rfl, Below.refl _ _⟩
  by_cases hl2 : 1048576 < len2
  · go_enter Tryd.func4, Tryd.ntmps4
    go_wp2_with fail
    go_ret
    exact ⟨rfl, Below.refl _ _⟩
  have HTAB := hid ht
  have HR2 := hid hr2
  clear ht hr2
  go_enter Tryd.func4, Tryd.ntmps4
  go_wp2_with fail
  refine (drawTableText_any _ _ _ _ _ hr).mono ?_
  rintro e w0 ⟨ts, ta, c, rfl, h3, h8, hT, t0⟩
  clear hr hl
  go_wp2_with fail
  refine (drawTableOk_any _ _ _ _ _ (HR2.out.below t0)).mono ?_
  rintro e w ⟨ts', ta', c', rfl, h3', h8', hT', t1⟩
  replace hT := hT.below t1
  replace t0 := t0.trans (t1.mono t0.size)
  clear t1 HR2
  have tt : Below w.heap.size w w := Below.refl _ _
  have CI := hid (fun u (hu : Below w.heap.size w u) => tableText_any ta c ts u (hT.below hu) ((HTAB.out.below t0).below hu))
  have CI' := hid (fun u (hu : Below w.heap.size w u) => tableText_any ta' c' ts' u (hT'.below hu) ((HTAB.out.below t0).below hu))
  have CS := hid (fun u (hu : Below w.heap.size w u) => stableText_any ta c ts u (hT.below hu))
  have CE := hid (fun u (hu : Below w.heap.size w u) => ldTable_any ta ta' c c' ts ts' u (hT.below hu) (hT'.below hu))
  have q1 := tabTxt_nil ts
  have q2 := tabTxt_nil ts'
  rw [← txt_tl (tabTxt ts)] at q1
  rw [← txt_tl (tabTxt ts')] at q2
  have hlen := tabTxt_len ts
  have HC := hid (@tabTxt_count ts)
  have HE : Hid (tblOk ts = true → tblOk ts' = true → ((txt (tabTxt ts)).toList == (txt (tabTxt ts')).toList) = tblEq ts ts') := hid (fun h h' => by
    rw [txt_tl, txt_tl]
    cases e : tblEq ts ts'
    · have hne : ¬ ts = ts' := fun e' => by rw [tblEq_yes e'] at e; cases e
      have : ¬ tabTxt ts = tabTxt ts' := fun e' => hne (tabTxt_inj h h' e')
      simpa using this
    · have : ts = ts' := by unfold tblEq at e; exact @of_decide_eq_true _ (Classical.propDecidable _) e
      rw [this]; simp)
  generalize tblEq ts ts' = EQ at *
  generalize eb1 : tblOk ts = b1 at *
  generalize eb2 : tblOk ts' = b2 at *
  obtain ⟨n, en⟩ : ∃ n, n = ts.length := ⟨_, rfl⟩
  obtain ⟨n', en'⟩ : ∃ n', n' = ts'.length := ⟨_, rfl⟩
  rw [← en] at CI CS CE HC h3 h8 ⊢
  rw [← en'] at CI' CE h3' h8' ⊢
  generalize tabTxt ts = l at *
  obtain ⟨S', eS'⟩ : ∃ S', S' = txt (tabTxt ts') := ⟨_, rfl⟩
  rw [← eS'] at CI' HE q2
  clear hT hT' en en' eS' eb1 eb2
  cases b1
  case false =>
    obtain ⟨S, eS⟩ : ∃ S, S = txt l := ⟨_, rfl⟩
    rw [← eS] at CI CS q1
    clear HC HE CE eS
    go_wp2_with fail
    refine (CI.out _ tt).mono ?_
    rintro e w1 ⟨rfl, hb⟩
    replace tt := tt.trans (hb.mono tt.size)
    clear hb
    go_wp2_with fail
    refine (CI'.out _ tt).mono ?_
    rintro e w2 ⟨rfl, hb⟩
    replace tt := tt.trans (hb.mono tt.size)
    clear hb
    go_wp2_with fail
    refine (CS.out _ tt).mono ?_
    rintro e w3 ⟨rfl, hb⟩
    replace tt := tt.trans (hb.mono tt.size)
    clear hb
    go_wp2_with fail
    refine (CS.out _ tt).mono ?_
    rintro e w4 ⟨rfl, hb⟩
    replace tt := tt.trans (hb.mono tt.size)
    clear hb
    go_wp2_with fail
    go_ret
    exact ⟨rfl, t0.trans (tt.mono t0.size)⟩
  case true =>
  cases b2
  case false =>
    obtain ⟨S, eS⟩ : ∃ S, S = txt l := ⟨_, rfl⟩
    rw [← eS] at CI CS q1
    clear HC HE CE eS
    go_wp2_with fail
    refine (CI.out _ tt).mono ?_
    rintro e w1 ⟨rfl, hb⟩
    replace tt := tt.trans (hb.mono tt.size)
    clear hb
    go_wp2_with fail
    refine (CI'.out _ tt).mono ?_
    rintro e w2 ⟨rfl, hb⟩
    replace tt := tt.trans (hb.mono tt.size)
    clear hb
    go_wp2_with fail
    refine (CS.out _ tt).mono ?_
    rintro e w3 ⟨rfl, hb⟩
    replace tt := tt.trans (hb.mono tt.size)
    clear hb
    go_wp2_with fail
    refine (CS.out _ tt).mono ?_
    rintro e w4 ⟨rfl, hb⟩
    replace tt := tt.trans (hb.mono tt.size)
    clear hb
    go_wp2_with fail
    go_ret
    exact ⟨rfl, t0.trans (tt.mono t0.size)⟩
  case true =>
  replace HC := hid (HC.out rfl)
  replace HE := HE.out rfl rfl
  have hz : (txt l).size = l.length := txt_size l
  go_wp2_with fail
  refine (CI.out _ tt).mono ?_
  rintro e w1 ⟨rfl, hb⟩
  replace tt := tt.trans (hb.mono tt.size)
  clear hb
  go_wp2_with fail
  refine (CI'.out _ tt).mono ?_
  rintro e w2 ⟨rfl, hb⟩
  replace tt := tt.trans (hb.mono tt.size)
  clear hb
  go_wp2_with fail
  refine (CS.out _ tt).mono ?_
  rintro e w3 ⟨rfl, hb⟩
  replace tt := tt.trans (hb.mono tt.size)
  clear hb
  go_wp2_with fail
  go_loopw [9, 10] (fun nv iv wr => ∃ i : Nat, iv = .int .i64 (i : Int) ∧ i ≤ l.length ∧ (∃ m : Nat, nv = .int .i64 (m : Int) ∧ m ≤ i ∧ Hid ((l.take i).count 10 = m)) ∧ Below w.heap.size w wr) (fun _ iv _ => ((l.length : Int) - intOf iv).toNat)
  case atStart => exact ⟨0, rfl, by omega, ⟨0, rfl, by omega, hid (by simp)⟩, tt⟩
  case round =>
    clear tt
    obtain ⟨i, rfl, hil, ⟨m, rfl, hmi, HM⟩, tt⟩ := hrel
    by_cases hi : i < l.length
    · have hi2 : i < (txt l).size := by rw [txt_size]; exact hi
      obtain ⟨x, hx, hxt⟩ : ∃ x : UInt8, l[i]? = some x ∧ (txt l)[i]'hi2 = x := ⟨_, List.getElem?_eq_getElem hi, rfl⟩
      have hsuc : (l.take (i + 1)).count 10 = (l.take i).count 10 + [x].count 10 := by
        rw [List.take_add_one, List.count_append, hx]; rfl
      cases hc : ((((txt l)[i]'hi2).toNat : Int) == 10)
      · have hn : ¬ x = 10 := fun e => by
          rw [hxt, e] at hc
          cases hc
        have HM2 := hid (show (l.take (i + 1)).count 10 = m by rw [hsuc, HM.out, List.count_singleton]; simp [hn])
        clear hsuc hx hxt
        go_wp2_with fail
        go_roundw
        case rel => exact ⟨i + 1, by go_num, by omega, ⟨m, rfl, by omega, HM2⟩, tt⟩
        case measure => simp [intOf]; omega
      · have hn : x = 10 := by
          rw [hxt] at hc
          have h1 : ((x.toNat : Nat) : Int) = 10 := by simpa using hc
          apply UInt8.toNat_inj.1
          show x.toNat = 10
          omega
        have HM2 := hid (show (l.take (i + 1)).count 10 = m + 1 by rw [hsuc, HM.out, hn]; rfl)
        clear hsuc hx hxt
        go_wp2_with fail
        go_roundw
        case rel => exact ⟨i + 1, by go_num, by omega, ⟨m + 1, by go_num, by omega, HM2⟩, tt⟩
        case measure => simp [intOf]; omega
    · obtain rfl : i = l.length := by omega
      have hmn : m = n := by have := HM.out; rw [List.take_length, HC.out] at this; exact this.symm
      subst hmn
      go_wp2_with fail
      refine (CE.out _ tt).mono ?_
      rintro e w4 ⟨rfl, hb⟩
      replace tt := tt.trans (hb.mono tt.size)
      clear hb
      go_wp2_with fail
      go_ret
      exact ⟨rfl, t0.trans (tt.mono t0.size)⟩
end Go.Proofs.YtcgmnpppdoadhaaDoor
