/- The text of a table, in plain data, and its plain laws. No program in sight. No condition. -/
import Derived.Test.YtcgmnpppdoadhaaDoorTxtPure
import Derived.Test.YtcgmnpppdoadhaaDoorChk
import Derived.Lib.Join
namespace Go.Proofs.YtcgmnpppdoadhaaDoor
set_option maxRecDepth 100000
open Go.RowKit
set_option linter.unusedVariables false
set_option linter.unusedSimpArgs false

/-- The name of a kind; a number from -9 on; the words of a thing; its line; the lines of the first k things; the text of a table. -/
def kn (k : Int) : List UInt8 := if k = 1 then [112, 97, 103, 101] else if k = 2 then [110, 111, 100, 101] else if k = 3 then [114, 117, 110] else if k = 4 then [112, 105, 112, 101] else if k = 5 then [103, 97, 116, 101] else []
def decI (n : Int) : List UInt8 := if n < 0 then 45 :: dec (-n).toNat else dec n.toNat
def rtTxt (x : Rt) : List UInt8 := rgtTxt x.t x.v x.r x.w x.k
def quW (z : Int) : List UInt8 := 60 :: decI z
def gateW (t : Th) : List (List UInt8) := if t.kind = 5 then [62 :: decI t.tg] else []
def thWs (t : Th) : List (List UInt8) := [lblTxt t.sec t.vou, decI t.vers, decI t.num] ++ t.slots.map rtTxt ++ t.queue.map quW ++ gateW t
def l3Th (t : Th) : List UInt8 := kn t.kind ++ Lib.joinTail [32] (thWs t) ++ [10]
def lineT (i : Nat) (t : Th) : List UInt8 := dec i ++ [32] ++ l3Th t
def lns (ts : List Th) : Nat → List UInt8
  | 0 => []
  | k + 1 => lns ts k ++ (ts[k]?).elim [] (lineT (k + 1))
def tabTxt (ts : List Th) : List UInt8 := if tblOk ts then lns ts ts.length else []

theorem lns_succ {ts : List Th} {k : Nat} {t : Th} (h : ts[k]? = some t) : lns ts (k + 1) = lns ts k ++ lineT (k + 1) t := by
  show lns ts k ++ (ts[k]?).elim [] (lineT (k + 1)) = _
  rw [h]; rfl
theorem decI_nat (n : Nat) : decI (n : Int) = dec n := by
  unfold decI; rw [if_neg (by omega)]; simp
theorem jt_append (a b : List (List UInt8)) : Lib.joinTail [32] (a ++ b) = Lib.joinTail [32] a ++ Lib.joinTail [32] b := by simp [Lib.joinTail]
theorem jt_cons (x : List UInt8) (r : List (List UInt8)) : Lib.joinTail [32] (x :: r) = 32 :: x ++ Lib.joinTail [32] r := by simp [Lib.joinTail]

/-! ### How long -/
theorem decI_len (n : Int) : (decI n).length ≤ 3 := by
  unfold decI; split
  · simp; have := dec_len (-n).toNat; omega
  · have := dec_len n.toNat; omega
theorem lblTxt_len (s v : Int) : (lblTxt s v).length ≤ 5 := by
  unfold lblTxt; split
  · simp; have := dec_len s.toNat; have := dec_len v.toNat; omega
  · simp
theorem rtTxt_len (x : Rt) : (rtTxt x).length ≤ 8 := by
  unfold rtTxt rgtTxt
  split
  · split
    · simp
    · simp; have := dec_len x.t.toNat; have := dec_len x.v.toNat; omega
  · simp
theorem kn_len (k : Int) : (kn k).length ≤ 4 := by unfold kn; (repeat' split) <;> simp
theorem lens_le {c : Nat} : ∀ {r : List (List UInt8)}, (∀ x ∈ r, x.length ≤ c) → Lib.lens r ≤ c * r.length
  | [], _ => by simp [Lib.lens]
  | a :: r, h => by
    have h1 := h a (by simp)
    have h2 := lens_le (r := r) (fun x hx => h x (by simp [hx]))
    simp only [Lib.lens, List.map_cons, List.sum_cons, List.length_cons] at h2 ⊢
    rw [Nat.mul_add]
    omega
theorem thWs_len (t : Th) : ∀ x ∈ thWs t, x.length ≤ 8 := by
  intro x hx
  unfold thWs at hx
  simp only [List.mem_append, List.mem_cons, List.mem_map, List.not_mem_nil, or_false] at hx
  rcases hx with (((rfl | rfl | rfl) | ⟨y, _, rfl⟩) | ⟨y, _, rfl⟩) | hx
  · have := lblTxt_len t.sec t.vou; omega
  · have := decI_len t.vers; omega
  · have := decI_len t.num; omega
  · exact rtTxt_len y
  · unfold quW; simp; have := decI_len y; omega
  · unfold gateW at hx
    split at hx
    · simp at hx; subst hx; simp; have := decI_len t.tg; omega
    · simp at hx
theorem gateW_len (t : Th) : (gateW t).length ≤ 1 := by unfold gateW; split <;> simp
theorem jt_le (r : List (List UInt8)) (h : ∀ x ∈ r, x.length ≤ 8) : (Lib.joinTail [32] r).length ≤ 9 * r.length := by
  rw [Lib.joinTail_length]
  have := lens_le h
  simp
  omega
theorem thWs_count {t : Th} (h1 : t.slots.length ≤ 4) (h2 : t.queue.length ≤ 3) : (thWs t).length ≤ 11 := by
  have := gateW_len t
  simp [thWs]; omega
theorem l3Th_len {t : Th} (h1 : t.slots.length ≤ 4) (h2 : t.queue.length ≤ 3) : (l3Th t).length ≤ 104 := by
  have a := jt_le (thWs t) (thWs_len t)
  have b := thWs_count h1 h2
  have c := kn_len t.kind
  simp [l3Th]; omega
theorem lineT_len {i : Nat} {t : Th} (h1 : t.slots.length ≤ 4) (h2 : t.queue.length ≤ 3) : (lineT i t).length ≤ 107 := by
  have a := l3Th_len h1 h2
  have b := dec_len i
  simp [lineT]; omega
theorem lns_len {ts : List Th} (h : ∀ t ∈ ts, t.slots.length ≤ 4 ∧ t.queue.length ≤ 3) (k : Nat) : (lns ts k).length ≤ 107 * k := by
  induction k with
  | zero => simp [lns]
  | succ k ih =>
    show (lns ts k ++ (ts[k]?).elim [] (lineT (k + 1))).length ≤ _
    cases hx : ts[k]? with
    | none => simp; omega
    | some t =>
      have := h t (List.mem_of_getElem? hx)
      have := lineT_len (i := k + 1) this.1 this.2
      simp; omega
theorem ok_lens {t : Th} (h : t.ok = true) : t.slots.length ≤ 4 ∧ t.queue.length ≤ 3 := by
  have := ((thOk_iff _ _ _ _ _ _ _ _).1 h).1
  unfold Lin at this
  omega
theorem tbl_ok {ts : List Th} (h : tblOk ts = true) {k : Nat} {t : Th} (hx : ts[k]? = some t) : t.ok = true := by
  unfold tblOk at h
  simp only [Bool.and_eq_true, List.all_eq_true] at h
  exact (h.1.2 _ (List.mem_of_getElem? hx)).1
theorem tbl_len {ts : List Th} (h : tblOk ts = true) : 1 ≤ ts.length ∧ ts.length ≤ 8 := by
  unfold tblOk at h
  simp only [Bool.and_eq_true] at h
  have := h.1.1
  simp [inB] at this
  omega

/-! ### The words hold neither a blank nor a line's end -/
def Cln (l : List UInt8) : Prop := 32 ∉ l ∧ 10 ∉ l
theorem Cln.append {a b : List UInt8} (h : Cln a) (k : Cln b) : Cln (a ++ b) := ⟨by simp [h.1, k.1], by simp [h.2, k.2]⟩
theorem Cln.cons {x : UInt8} {b : List UInt8} (h1 : x ≠ 32) (h2 : x ≠ 10) (k : Cln b) : Cln (x :: b) := ⟨by simp [k.1]; exact fun h => h1 h.symm, by simp [k.2]; exact fun h => h2 h.symm⟩
theorem Cln.nil : Cln [] := ⟨by simp, by simp⟩
theorem dig_cln (n : Nat) (h : n < 10) : Cln [dig n] := by
  have e : ((dig n).toNat) = 48 + n := by unfold dig; rw [UInt8.toNat_ofNat']; omega
  refine Cln.cons (fun q => ?_) (fun q => ?_) Cln.nil
  · rw [q] at e; simp at e; omega
  · rw [q] at e; simp at e; omega
theorem dec_cln {n : Nat} (h : n < 100) : Cln (dec n) := by
  by_cases h1 : n < 10
  · rw [dec_small n h1]; exact dig_cln n h1
  · rw [dec_large n h1]; exact (dig_cln _ (by omega)).append (dig_cln _ (by omega))
theorem decI_cln {n : Int} (h0 : -100 < n) (h1 : n < 100) : Cln (decI n) := by
  unfold decI
  split
  · exact Cln.cons (by decide) (by decide) (dec_cln (by omega))
  · exact dec_cln (by omega)
theorem lblTxt_cln (s v : Int) : Cln (lblTxt s v) := by
  unfold lblTxt
  cases e : lblOk s v
  · exact Cln.nil
  · obtain ⟨b1, b2, b3, b4⟩ := lblOk_bd e
    exact ((dec_cln (by omega)).append (Cln.cons (by decide) (by decide) Cln.nil)).append (dec_cln (by omega))
theorem flc_cln (b : Bool) {c : UInt8} (h1 : c ≠ 32) (h2 : c ≠ 10) : Cln [flc b c] := by
  cases b
  · show Cln [45]; exact Cln.cons (by decide) (by decide) Cln.nil
  · exact Cln.cons h1 h2 Cln.nil
theorem rtTxt_cln (x : Rt) : Cln (rtTxt x) := by
  unfold rtTxt rgtTxt
  cases e : rgtOk x.t x.v x.r x.w x.k
  · exact Cln.nil
  · obtain ⟨b1, b2, b3, b4⟩ := rgtOk_bd e
    simp only [if_true]
    split
    · exact Cln.cons (by decide) (by decide) Cln.nil
    · exact (((((dec_cln (by omega)).append (Cln.cons (by decide) (by decide) Cln.nil)).append (dec_cln (by omega))).append (flc_cln _ (by decide) (by decide))).append (flc_cln _ (by decide) (by decide))).append (flc_cln _ (by decide) (by decide))
theorem kn_cln (k : Int) : Cln (kn k) := by
  unfold kn Cln
  (repeat' split) <;> decide
/-- What a thing that is ok has, in bounds. -/
theorem ok_bds {t : Th} (h : t.ok = true) : 1 ≤ t.kind ∧ t.kind ≤ 5 ∧ lblOk t.sec t.vou = true ∧ 0 ≤ t.vers ∧ t.vers ≤ 5 ∧ -4 ≤ t.num ∧ t.num ≤ 99 ∧ (∀ z ∈ t.queue, 0 ≤ z ∧ z ≤ 99) ∧ (∀ x ∈ t.slots, x.ok = true) ∧ 0 ≤ t.tg ∧ t.tg ≤ 8 := by
  have h' := h
  simp only [Th.ok, thOk, Bool.and_eq_true] at h'
  obtain ⟨⟨⟨⟨⟨⟨h1, h2⟩, h3⟩, h4⟩, h5⟩, h6⟩, h7⟩ := h'
  have k1 : 1 ≤ t.kind ∧ t.kind ≤ 5 := by simpa [inB] using h1
  refine ⟨k1.1, k1.2, h2, ?_⟩
  have v : 0 ≤ t.vers ∧ t.vers ≤ 5 := by
    unfold versB at h3; split at h3
    · simpa [inB] using h3
    · simp at h3; omega
  have n : -4 ≤ t.num ∧ t.num ≤ 99 := by
    unfold numB at h4; split at h4
    · have : 0 ≤ t.num ∧ t.num ≤ 99 := by simpa [inB] using h4
      omega
    · split at h4
      · simpa [inB] using h4
      · simp at h4; omega
  have q : ∀ z ∈ t.queue, 0 ≤ z ∧ z ≤ 99 := by
    unfold queueB at h6; split at h6
    · simp only [Bool.and_eq_true, List.all_eq_true] at h6
      intro z hz
      simpa [inB] using h6.2 z hz
    · intro z hz
      have : t.queue.length = 0 := by simpa using h6
      rw [List.eq_nil_of_length_eq_zero this] at hz
      cases hz
  have s : ∀ x ∈ t.slots, x.ok = true := by
    unfold slotsB at h5; split at h5
    · simp only [Bool.and_eq_true, List.all_eq_true] at h5
      exact h5.2
    · intro x hx
      have : t.slots.length = 0 := by simpa using h5
      rw [List.eq_nil_of_length_eq_zero this] at hx
      cases hx
  have g : 0 ≤ t.tg ∧ t.tg ≤ 8 := by
    unfold toB at h7; split at h7
    · have : 1 ≤ t.tg ∧ t.tg ≤ 8 := by simpa [inB] using h7
      omega
    · simp at h7; omega
  exact ⟨v.1, v.2, n.1, n.2, q, s, g.1, g.2⟩
theorem thWs_cln {t : Th} (h : t.ok = true) : ∀ x ∈ thWs t, Cln x := by
  obtain ⟨k1, k2, l, v1, v2, n1, n2, q, s, g1, g2⟩ := ok_bds h
  intro x hx
  unfold thWs at hx
  simp only [List.mem_append, List.mem_cons, List.mem_map, List.not_mem_nil, or_false] at hx
  rcases hx with (((rfl | rfl | rfl) | ⟨y, _, rfl⟩) | ⟨y, hy, rfl⟩) | hx
  · exact lblTxt_cln _ _
  · exact decI_cln (by omega) (by omega)
  · exact decI_cln (by omega) (by omega)
  · exact rtTxt_cln y
  · have := q y hy
    exact Cln.cons (by decide) (by decide) (decI_cln (by omega) (by omega))
  · unfold gateW at hx
    split at hx
    · simp at hx; subst hx; exact Cln.cons (by decide) (by decide) (decI_cln (by omega) (by omega))
    · simp at hx
end Go.Proofs.YtcgmnpppdoadhaaDoor
