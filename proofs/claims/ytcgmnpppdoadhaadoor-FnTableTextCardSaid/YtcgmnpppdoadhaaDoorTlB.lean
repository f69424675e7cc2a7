/- The program's texts of tables: contracts of thingLines and TableText, by the library's contracts for strings.Builder. They ask that strconv's table lies in its variable. -/
import Derived.Test.YtcgmnpppdoadhaaDoorTlI
import Derived.Test.YtcgmnpppdoadhaaDoorTbl2
namespace Go.Proofs.YtcgmnpppdoadhaaDoor
set_option maxRecDepth 100000
open Go Go.RowKit
set_option linter.unusedVariables false
set_option linter.unusedSimpArgs false

/-- A Builder in block b that holds the text l. -/
def Bld (u : World) (B b : Nat) (l : List UInt8) : Prop := Lib.IsBuilder 106 5 B b (Lib.byteCells l) u
theorem bldAt_below {T e : TypeId} {B b : Nat} {p : Value} {bs : List Value} {u u' : World} (h : Lib.BuilderAt T e B b p bs u) (hb : Below u.heap.size u u') : Lib.BuilderAt T e B b p bs u' := by
  obtain ⟨h1, v, h2, h3, h4⟩ := h
  exact ⟨h1, v, own_below hb h2, ownsRow_below h3 hb, h4⟩
theorem Bld.below {u u' : World} {B b : Nat} {l : List UInt8} (h : Bld u B b l) (hb : Below u.heap.size u u') : Bld u' B b l :=
  h.elim (fun h => .inl (bldAt_below h hb)) (fun h => .inr (bldAt_below h hb))
theorem Bld.fresh (w : World) : Bld (w.alloc (.cells #[.pointer none, .slice none 0 0] 106)) w.heap.size w.heap.size [] := Lib.fresh_isBuilder _ _ w
theorem bcells_txt (l l2 : List UInt8) : Lib.byteCells l ++ Lib.strCells (txt l2) = Lib.byteCells (l ++ l2) := by simp [Lib.byteCells, Lib.strCells, txt]
theorem writeString_any (B b : Nat) (l l2 : List UInt8) (w : World) (h : Bld w B b l) (hlen : l.length + l2.length ≤ 140737488355328) (hBw : B ≤ w.heap.size) :
    Calls Tryd.prog 65 #[.pointer (some ⟨b, 0, none⟩), .string (txt l2)] w fun e w' => e = .returned (.tuple #[.int .i64 (l2.length : Nat), .nilIface]) ∧ Bld w' B b (l ++ l2) ∧ Below B w w' := by
  refine (Any.Builder_WriteString { Tryd.lays156 with } Tryd.Builder_Extra_156 B b (Lib.byteCells l) (txt l2) w h (by simpa [Lib.byteCells, txt_size] using hlen) hBw).mono fun e w' q => ?_
  obtain ⟨he, hb, hbel⟩ := q
  rw [txt_size] at he
  rw [bcells_txt] at hb
  exact ⟨he, .inr hb, hbel⟩
theorem string_any (B b : Nat) (l : List UInt8) (w : World) (h : Bld w B b l) (hBw : B ≤ w.heap.size) :
    Calls Tryd.prog 67 #[.pointer (some ⟨b, 0, none⟩)] w fun e w' => e = .returned (.string (txt l)) ∧ Below B w w' := Tryd.Builder_String_any B b l w h hBw
set_option maxHeartbeats 4000000 in
theorem thingLines_any (ta : Option Addr) (c : Nat) (ts : List Th) (w : World) (hT : RowT w ta ts) (hok : ∀ t ∈ ts, t.ok = true) (h8 : ts.length ≤ 8) (ht : Tab w) :
    Calls Tryd.prog 33 #[.slice ta ts.length c] w fun e w' => e = .returned (.string (txt (lns ts ts.length))) ∧ Below w.heap.size w w' := by
  have tt : Below w.heap.size w (w.alloc (.cells #[.pointer none, .slice none 0 0] 106)) := (Below.refl _ _).alloc (Nat.le_refl _) _
  have hB : Bld (w.alloc (.cells #[.pointer none, .slice none 0 0] 106)) w.heap.size w.heap.size (lns ts 0) := Bld.fresh w
  have HLEN := hid (fun k => lns_len (ts := ts) (fun t h => ok_lens (hok t h)) k)
  have HT := hid hT
  have HOK := hid hok
  have HTAB := hid ht
  obtain ⟨n, en⟩ : ∃ n, n = ts.length := ⟨_, rfl⟩
  have EN := hid en
  rw [← en] at h8 ⊢
  clear en hT hok ht
  go_enter Tryd.func33, Tryd.ntmps33
  go_wp2_with fail
  go_loopw [8] (fun i wr => ∃ k : Nat, i = .int .i64 (k : Int) ∧ k ≤ n ∧ Below w.heap.size w wr ∧ ∃ L, Hid (L = lns ts k) ∧ Bld wr w.heap.size w.heap.size L) (fun i _ => ((n : Int) - intOf i).toNat)
  case atStart => exact ⟨0, rfl, by omega, tt, _, hid rfl, hB⟩
  case round =>
    clear tt hB
    obtain ⟨k, rfl, hkn, tt, L, HL, hB⟩ := hrel
    have hLl : L.length ≤ 107 * k := by rw [HL.out]; exact HLEN.out k
    by_cases hk : k < n
    · obtain ⟨b, off, t, rfl, hx, hb, h8t⟩ := HT.out.at (k := k) (by rw [← EN.out]; exact hk)
      have hto := HOK.out t (List.mem_of_getElem? hx)
      obtain ⟨sa, sc, qa, qc, c0, c1, c2, c3, c4, c5, c6, c7, hR, hQ⟩ := h8t.below tt hb
      have hln := lineT_len (i := k + 1) (ok_lens hto).1 (ok_lens hto).2
      have HX := hid hx
      have CL := hid (fun u (hu : Below wr.heap.size wr u) => thingLine_any (k + 1) t sa qa sc qc u (by omega) hto (hR.below hu) (hQ.below hu) ((HTAB.out.below tt).below hu))
      have hwk : ((k + 1 : Nat) : Int) = (k : Int) + 1 := by omega
      rw [hwk] at CL
      have hXX := (Below.refl wr.heap.size wr).alloc (Nat.le_refl _) (.cells #[.int .i64 t.kind, .int .i64 t.sec, .int .i64 t.vou, .int .i64 t.vers, .int .i64 t.num, .slice sa t.slots.length sc, .slice qa t.queue.length qc, .int .i64 t.tg] 36)
      clear hx h8t hR hQ hto hwk
      obtain ⟨lt, elt⟩ : ∃ lt, lt = lineT (k + 1) t := ⟨_, rfl⟩
      rw [← elt] at CL hln
      have ELT := hid elt
      clear elt
      go_wp2_with fail
      refine (CL.out _ hXX).mono ?_
      rintro e w5 ⟨rfl, hb5⟩
      clear c0 c1 c2 c3 c4 c5 c6 c7 CL
      replace hb5 := hXX.trans (hb5.mono hXX.size)
      have zt := tt.size
      replace tt := tt.trans (hb5.mono zt)
      replace hB := hB.below hb5
      clear hb5 hXX
      go_wp2_with fail
      refine (writeString_any _ _ L lt _ hB (by omega) tt.size).mono ?_
      rintro e w6 ⟨rfl, hB', hb6⟩
      replace tt := tt.trans hb6
      go_wp2_with fail
      go_roundw
      case rel => exact ⟨k + 1, by go_num, by omega, tt, _, hid (by rw [lns_succ HX.out, HL.out, ELT.out]), hB'⟩
      case measure => simp [intOf]; omega
    · obtain rfl : k = n := by omega
      have HE := hid (show txt L = txt (lns ts k) by rw [HL.out])
      go_wp2_with fail
      refine (string_any _ _ L _ hB tt.size).mono ?_
      rintro e w6 ⟨rfl, hb6⟩
      replace tt := tt.trans hb6
      go_wp2_with fail
      go_ret
      exact ⟨congrArg (fun s => Ending.returned (.string s)) HE.out, tt⟩
set_option maxHeartbeats 4000000 in
theorem tableText_any (ta : Option Addr) (c : Nat) (ts : List Th) (w : World) (hT : RowT w ta ts) (ht : Tab w) :
    Calls Tryd.prog 15 #[.slice ta ts.length c] w fun e w' => e = .returned (.string (txt (tabTxt ts))) ∧ Below w.heap.size w w' := by
  have CT := hid (fun u (hu : Below w.heap.size w u) => tableOk_any ta c ts u (hT.below hu))
  have tt : Below w.heap.size w w := Below.refl _ _
  cases e0 : tblOk ts
  · have q : tabTxt ts = [] := by simp [tabTxt, e0]
    rw [q]
    rw [e0] at CT
    clear q e0 hT
    generalize ts.length = n at *
    go_enter Tryd.func15, Tryd.ntmps15
    go_wp2_with fail
    refine (CT.out _ tt).mono ?_
    rintro e w1 ⟨rfl, hb⟩
    go_wp2_with fail
    go_ret
    exact ⟨rfl, hb⟩
  · have q : tabTxt ts = lns ts ts.length := by simp [tabTxt, e0]
    have CL := hid (fun u (hu : Below w.heap.size w u) => thingLines_any ta c ts u (hT.below hu) (fun t h => by obtain ⟨k, hk⟩ := List.mem_iff_getElem?.1 h; exact tbl_ok e0 hk) (tbl_len e0).2 (ht.below hu))
    rw [← q] at CL
    rw [e0] at CT
    clear q e0 hT ht
    generalize tabTxt ts = L at *
    generalize ts.length = n at *
    go_enter Tryd.func15, Tryd.ntmps15
    go_wp2_with fail
    refine (CT.out _ tt).mono ?_
    rintro e w1 ⟨rfl, hb⟩
    replace tt := tt.trans (hb.mono tt.size)
    clear hb
    go_wp2_with fail
    refine (CL.out _ tt).mono ?_
    rintro e w2 ⟨rfl, hb⟩
    replace tt := tt.trans (hb.mono tt.size)
    clear hb
    go_wp2_with fail
    go_ret
    exact ⟨rfl, tt⟩
end Go.Proofs.YtcgmnpppdoadhaaDoor
