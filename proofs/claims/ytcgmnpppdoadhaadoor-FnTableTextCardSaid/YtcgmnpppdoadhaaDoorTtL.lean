/- Plain laws on the texts of tables: a text tells the table; it has a line's end for each thing. No program in sight. No condition. -/
import Derived.Test.YtcgmnpppdoadhaaDoorTtP
namespace Go.Proofs.YtcgmnpppdoadhaaDoor
set_option maxRecDepth 100000
open Go.RowKit
set_option linter.unusedVariables false
set_option linter.unusedSimpArgs false

theorem split_at {c : UInt8} : ∀ {a b r s : List UInt8}, c ∉ a → c ∉ b → a ++ c :: r = b ++ c :: s → a = b ∧ r = s
  | [], [], r, s, _, _, h => by simpa using h
  | [], y :: b, r, s, _, hb, h => by
    simp at h
    exact absurd h.1 (fun e => hb (by simp [e]))
  | x :: a, [], r, s, ha, _, h => by
    simp at h
    exact absurd h.1 (fun e => ha (by simp [e]))
  | x :: a, y :: b, r, s, ha, hb, h => by
    simp at h ha hb
    obtain ⟨rfl, h2⟩ := h
    obtain ⟨h3, h4⟩ := split_at ha.2 hb.2 h2
    exact ⟨by rw [h3], h4⟩
theorem words_inj : ∀ {r s : List (List UInt8)} {x y : List UInt8}, Cln x → Cln y → (∀ l ∈ r, Cln l) → (∀ l ∈ s, Cln l) → x ++ Lib.joinTail [32] r = y ++ Lib.joinTail [32] s → x = y ∧ r = s
  | [], [], x, y, _, _, _, _, h => by simp [Lib.joinTail] at h; exact ⟨h, rfl⟩
  | [], a :: s, x, y, hx, _, _, _, h => by
    rw [jt_cons] at h
    simp [Lib.joinTail] at h
    exact absurd (show 32 ∈ x by rw [h]; simp) hx.1
  | a :: r, [], x, y, _, hy, _, _, h => by
    rw [jt_cons] at h
    simp [Lib.joinTail] at h
    exact absurd (show 32 ∈ y by rw [← h]; simp) hy.1
  | a :: r, b :: s, x, y, hx, hy, hr, hs, h => by
    rw [jt_cons, jt_cons] at h
    simp only [List.cons_append] at h
    obtain ⟨h1, h2⟩ := split_at hx.1 hy.1 h
    obtain ⟨h3, h4⟩ := words_inj (hr a (by simp)) (hs b (by simp)) (fun l hl => hr l (by simp [hl])) (fun l hl => hs l (by simp [hl])) h2
    exact ⟨h1, by rw [h3, h4]⟩
theorem dec_inj {a b : Nat} (ha : a < 100) (hb : b < 100) (h : dec a = dec b) : a = b := by
  unfold dec at h
  split at h <;> split at h
  · simp at h; exact dig_inj (by omega) (by omega) h
  · simp at h
  · simp at h
  · simp at h
    have h1 := dig_inj (by omega) (by omega) h.1
    have h2 := dig_inj (by omega) (by omega) h.2
    omega
theorem dig_ne45 {n : Nat} (h : n < 10) : dig n ≠ 45 := by
  intro e
  have := congrArg UInt8.toNat e
  unfold dig at this
  rw [UInt8.toNat_ofNat'] at this
  simp at this
  omega
theorem dec_ne45 {n : Nat} (h : n < 100) (r : List UInt8) : dec n ≠ 45 :: r := by
  intro e
  unfold dec at e
  split at e
  · simp at e; exact dig_ne45 (by omega) e.1
  · simp at e; exact dig_ne45 (by omega) e.1
theorem decI_inj {a b : Int} (a0 : -100 < a) (a1 : a < 100) (b0 : -100 < b) (b1 : b < 100) (h : decI a = decI b) : a = b := by
  unfold decI at h
  split at h <;> split at h
  · simp at h; have := dec_inj (by omega) (by omega) h; omega
  · exact absurd h.symm (dec_ne45 (by omega) _)
  · exact absurd h (dec_ne45 (by omega) _)
  · have := dec_inj (by omega) (by omega) h; omega
theorem lblTxt_inj {a b c d : Int} (h1 : lblOk a b = true) (h2 : lblOk c d = true) (h : lblTxt a b = lblTxt c d) : a = c ∧ b = d := by
  obtain ⟨p1, p2, p3, p4⟩ := lblOk_bd h1
  obtain ⟨q1, q2, q3, q4⟩ := lblOk_bd h2
  unfold lblTxt at h
  rw [h1, h2] at h
  simp only [if_true] at h
  rw [dec_small a.toNat (by omega), dec_small b.toNat (by omega), dec_small c.toNat (by omega), dec_small d.toNat (by omega)] at h
  simp at h
  have := dig_inj (by omega) (by omega) h.1
  have := dig_inj (by omega) (by omega) h.2
  omega
theorem kn_inj {a b : Int} (a1 : 1 ≤ a) (a5 : a ≤ 5) (b1 : 1 ≤ b) (b5 : b ≤ 5) (h : kn a = kn b) : a = b := by
  have ha : a = 1 ∨ a = 2 ∨ a = 3 ∨ a = 4 ∨ a = 5 := by omega
  have hb : b = 1 ∨ b = 2 ∨ b = 3 ∨ b = 4 ∨ b = 5 := by omega
  rcases ha with rfl | rfl | rfl | rfl | rfl <;> rcases hb with rfl | rfl | rfl | rfl | rfl <;> first | rfl | (exact absurd h (by decide))
theorem rtTxt_inj {x y : Rt} (hx : x.ok = true) (hy : y.ok = true) (h : rtTxt x = rtTxt y) : x = y := by
  have := rgtTxt_inj (show rgtOk x.t x.v x.r x.w x.k = true from hx) (show rgtOk y.t y.v y.r y.w y.k = true from hy)
  unfold rtTxt at h
  rw [h] at this
  simp [rgtEq] at this
  obtain ⟨x1, x2, x3, x4, x5⟩ := x
  obtain ⟨y1, y2, y3, y4, y5⟩ := y
  simp at this
  obtain ⟨⟨⟨⟨rfl, rfl⟩, rfl⟩, rfl⟩, rfl⟩ := this
  rfl
theorem map_inj {α β : Type} {f : α → β} : ∀ {xs ys : List α}, (∀ x ∈ xs, ∀ y ∈ ys, f x = f y → x = y) → xs.map f = ys.map f → xs = ys
  | [], [], _, _ => rfl
  | [], _ :: _, _, h => by simp at h
  | _ :: _, [], _, h => by simp at h
  | x :: xs, y :: ys, hf, h => by
    simp only [List.map_cons, List.cons.injEq] at h
    rw [hf x (by simp) y (by simp) h.1, map_inj (fun a ha b hb => hf a (by simp [ha]) b (by simp [hb])) h.2]
/-- How many rights, and whither, by the kind. -/
theorem ok_kind {t : Th} (h : t.ok = true) : t.slots.length = (if t.kind = 2 ∨ t.kind = 3 then 4 else 0) ∧ (t.kind ≠ 5 → t.tg = 0) := by
  simp only [Th.ok, thOk, Bool.and_eq_true] at h
  obtain ⟨⟨⟨⟨⟨⟨h1, h2⟩, h3⟩, h4⟩, h5⟩, h6⟩, h7⟩ := h
  constructor
  · unfold slotsB at h5
    split at h5
    · rename_i hk
      simp only [Bool.and_eq_true] at h5
      rw [if_pos hk]; simpa using h5.1
    · rename_i hk
      rw [if_neg hk]; simpa using h5
  · intro hk
    unfold toB at h7
    rw [if_neg hk] at h7
    simpa using h7
theorem body_inj {t t' : Th} (h : t.ok = true) (h' : t'.ok = true) (e : kn t.kind ++ Lib.joinTail [32] (thWs t) = kn t'.kind ++ Lib.joinTail [32] (thWs t')) : t = t' := by
  obtain ⟨k1, k2, l, v1, v2, n1, n2, q, s, g1, g2⟩ := ok_bds h
  obtain ⟨k1', k2', l', v1', v2', n1', n2', q', s', g1', g2'⟩ := ok_bds h'
  obtain ⟨e1, e2⟩ := words_inj (kn_cln _) (kn_cln _) (thWs_cln h) (thWs_cln h') e
  have ek := kn_inj k1 k2 k1' k2' e1
  obtain ⟨o1, o2⟩ := ok_kind h
  obtain ⟨o1', o2'⟩ := ok_kind h'
  have esl : t.slots.length = t'.slots.length := by rw [o1, o1', ek]
  have egl : (gateW t).length = (gateW t').length := by
    unfold gateW; rw [ek]; split <;> simp
  unfold thWs at e2
  simp only [List.append_assoc, List.cons_append, List.nil_append, List.cons.injEq] at e2
  obtain ⟨f1, f2, f3, f4⟩ := e2
  obtain ⟨f5, f6⟩ := List.append_inj f4 (by simpa using esl)
  have eql : (t.queue.map quW).length = (t'.queue.map quW).length := by
    have := congrArg List.length f6
    simp only [List.length_append] at this
    omega
  obtain ⟨f7, f8⟩ := List.append_inj f6 eql
  have el := lblTxt_inj l l' f1
  have ev := decI_inj (by omega) (by omega) (by omega) (by omega) f2
  have en := decI_inj (by omega) (by omega) (by omega) (by omega) f3
  have es : t.slots = t'.slots := map_inj (fun x hx y hy => rtTxt_inj (s x hx) (s' y hy)) f5
  have eq : t.queue = t'.queue := map_inj (fun x hx y hy hxy => by
    have a := q x hx
    have b := q' y hy
    unfold quW at hxy
    simp at hxy
    exact decI_inj (by omega) (by omega) (by omega) (by omega) hxy) f7
  have eg : t.tg = t'.tg := by
    by_cases hk : t.kind = 5
    · unfold gateW at f8
      rw [if_pos hk, if_pos (ek ▸ hk)] at f8
      simp at f8
      exact decI_inj (by omega) (by omega) (by omega) (by omega) f8
    · rw [o2 hk, o2' (ek ▸ hk)]
  obtain ⟨a1, a2, a3, a4, a5, a6, a7, a8⟩ := t
  obtain ⟨b1, b2, b3, b4, b5, b6, b7, b8⟩ := t'
  simp only at ek el ev en es eq eg
  obtain ⟨rfl, rfl⟩ := el
  subst ek ev en es eq eg
  rfl
/-- The lines, from the front. -/
def lnsF : Nat → List Th → List UInt8
  | _, [] => []
  | k, t :: r => lineT (k + 1) t ++ lnsF (k + 1) r
theorem lns_front : ∀ (r p : List Th), lns (p ++ r) (p ++ r).length = lns (p ++ r) p.length ++ lnsF p.length r
  | [], p => by simp [lnsF]
  | t :: r, p => by
    have h := lns_front r (p ++ [t])
    simp only [List.append_assoc, List.cons_append, List.nil_append, List.length_append, List.length_cons, List.length_nil] at h
    have e : (p ++ t :: r)[p.length]? = some t := by simp
    have h2 := lns_succ e
    simp only [List.length_append, List.length_cons] at h ⊢
    rw [show p.length + (r.length + 1) = p.length + (r.length + 1) from rfl] at h ⊢
    rw [h, h2]
    simp [lnsF]
theorem lns_all (ts : List Th) : lns ts ts.length = lnsF 0 ts := by
  have := lns_front ts []
  simpa [lns] using this
theorem body_cln {k : Nat} {t : Th} (hk : k < 100) (h : t.ok = true) : 10 ∉ dec k ++ 32 :: (kn t.kind ++ Lib.joinTail [32] (thWs t)) := by
  have hj : ∀ {r : List (List UInt8)}, (∀ l ∈ r, Cln l) → 10 ∉ Lib.joinTail [32] r := by
    intro r
    induction r with
    | nil => intro _; simp [Lib.joinTail]
    | cons a r ih =>
      intro h
      rw [jt_cons]
      have h1 := (h a (by simp)).2
      have h2 := ih (fun l hl => h l (by simp [hl]))
      simp [h1, h2]
  have a := (dec_cln hk).2
  have b := (kn_cln t.kind).2
  have c := hj (thWs_cln h)
  simp [a, b, c]
theorem line_body (k : Nat) (t : Th) (r : List UInt8) : lineT k t ++ r = (dec k ++ 32 :: (kn t.kind ++ Lib.joinTail [32] (thWs t))) ++ 10 :: r := by
  simp [lineT, l3Th]
theorem lnsF_inj : ∀ {ts ts' : List Th} {k : Nat}, k + ts.length < 100 → k + ts'.length < 100 → (∀ t ∈ ts, t.ok = true) → (∀ t ∈ ts', t.ok = true) → lnsF k ts = lnsF k ts' → ts = ts'
  | [], [], _, _, _, _, _, _ => rfl
  | [], t :: r, k, _, _, _, _, h => by
    simp only [lnsF] at h
    rw [line_body] at h
    simp at h
  | t :: r, [], k, _, _, _, _, h => by
    simp only [lnsF] at h
    rw [line_body] at h
    simp at h
  | t :: r, t' :: r', k, hk, hk', ho, ho', h => by
    simp only [lnsF] at h
    rw [line_body, line_body] at h
    simp only [List.length_cons] at hk hk'
    obtain ⟨h1, h2⟩ := split_at (body_cln (by omega) (ho t (by simp))) (body_cln (by omega) (ho' t' (by simp))) h
    have h3 := List.append_cancel_left h1
    simp only [List.cons.injEq, true_and] at h3
    rw [body_inj (ho t (by simp)) (ho' t' (by simp)) h3, lnsF_inj (by omega) (by omega) (fun x hx => ho x (by simp [hx])) (fun x hx => ho' x (by simp [hx])) h2]
theorem lnsF_count : ∀ {ts : List Th} {k : Nat}, k + ts.length < 100 → (∀ t ∈ ts, t.ok = true) → (lnsF k ts).count 10 = ts.length
  | [], _, _, _ => by simp [lnsF]
  | t :: r, k, hk, ho => by
    simp only [List.length_cons] at hk
    simp only [lnsF]
    rw [line_body, List.count_append, List.count_cons_self, lnsF_count (by omega) (fun x hx => ho x (by simp [hx])), List.count_eq_zero_of_not_mem (body_cln (by omega) (ho t (by simp)))]
    simp
theorem all_ok {ts : List Th} (h : tblOk ts = true) : ∀ t ∈ ts, t.ok = true := fun t ht => by
  obtain ⟨k, hk⟩ := List.mem_iff_getElem?.1 ht; exact tbl_ok h hk
/-- Two tables are the same just if their texts are. -/
theorem tabTxt_inj {ts ts' : List Th} (h : tblOk ts = true) (h' : tblOk ts' = true) (e : tabTxt ts = tabTxt ts') : ts = ts' := by
  unfold tabTxt at e
  rw [h, h'] at e
  simp only [if_true] at e
  rw [lns_all, lns_all] at e
  have := tbl_len h
  have := tbl_len h'
  exact lnsF_inj (by omega) (by omega) (all_ok h) (all_ok h') e
theorem tabTxt_count {ts : List Th} (h : tblOk ts = true) : (tabTxt ts).count 10 = ts.length := by
  unfold tabTxt
  rw [h]
  simp only [if_true]
  rw [lns_all]
  have := tbl_len h
  exact lnsF_count (by omega) (all_ok h)
theorem tabTxt_nil (ts : List Th) : (tabTxt ts == []) = !tblOk ts := by
  cases h : tblOk ts
  · simp [tabTxt, h]
  · have a := tabTxt_count h
    have b := tbl_len h
    have ne : tabTxt ts ≠ [] := fun e => by
      rw [e, List.count_nil] at a
      omega
    simpa using ne
theorem tabTxt_len (ts : List Th) : (tabTxt ts).length ≤ 856 := by
  unfold tabTxt
  split
  · rename_i h
    have a := lns_len (fun t ht => ok_lens (all_ok h t ht)) ts.length
    have := tbl_len h
    omega
  · simp
end Go.Proofs.YtcgmnpppdoadhaaDoor
