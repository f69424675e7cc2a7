/- A rule for a statement whose order of evaluation is open, inside a round of a range over a function: its operations only read, so one walk serves every order (the library's rule outside a round, turned). And the iterator over all rights of a table: what a loop over it does. No condition. -/
import Derived.Test.YtcgmnpppdoadhaaDoorOpen
import Derived.RangeFuncNested
import Derived.RangeFuncBound
import Derived.RangeFuncCalls
import Derived.RangeFuncLeaves
import Derived.Shelf.Abstract
import Derived.WalkKit
import Derived.OwnWalkIn
import Derived.TacticsInMore
import Derived.LoopNIn
import Derived.LoopIn
import Derived.Sort.QuietLawsIn
namespace Go.Proofs.YtcgmnpppdoadhaaDoor
set_option maxRecDepth 100000
open Go Go.RowKit Go.Shelf
set_option linter.unusedVariables false
set_option linter.unusedSimpArgs false
attribute [local go_sem] Oper.semAt_some

section
variable {F : Fence} {n : Nat} {P : Program} {ops : Array Oper} {md : Region.Mode} {C : World → Prop} {l : Nat}

theorem rnd_op {o : Oper} {a : Act} {K : Act → Prop} {K' : Act → World → Prop} {Q' : Exit → Act → World → Prop} {w : World} (hro : F.round = some l) (hnd : ∀ c, o.op ≠ .defer c) (hw : C w) (h : ∀ a w', C w' → K a → K' a w')
    (ha : o.askedIn F P a C) (hh : o.quietIn F n P a C K) : o.wpIn F n P a w K' Q' := by
  obtain ⟨v, h1, h2⟩ := hh
  have h3 := h1 w hw
  unfold Oper.quietAtIn at h3
  unfold Oper.wpIn
  refine ⟨ha w hw, ?_⟩
  rw [hro, Oper.semAt_some l _ _ hnd]
  generalize (execOp a.eval o).run P w = r at *
  cases r with
  | halt x w' => exact absurd h3 (by simp [Oper.quietUponIn])
  | ok x w' =>
    cases x <;> simp only [Oper.quietUponIn] at h3 <;> simp only [Oper.uponIn]
    case value u =>
      obtain ⟨rfl, rfl⟩ := h3
      exact h _ _ hw h2
    case skip =>
      obtain ⟨rfl, rfl⟩ := h3
      exact h _ _ hw h2
    case enter f args =>
      obtain ⟨rfl, hd, hc⟩ := h3
      exact ⟨hd, hc.mono fun e w'' ⟨he, hw''⟩ => by subst he; exact h _ _ hw'' h2⟩

theorem rnd_at {i : Nat} {a : Act} {K : Act → Prop} {K' : Act → World → Prop} {Q' : Exit → Act → World → Prop} {w : World} (hro : F.round = some l) (hnd : ∀ (i : Nat) (o : Oper), ops[i]? = some o → ∀ c, o.op ≠ .defer c) (hC : C w) (h : ∀ a w', C w' → K a → K' a w')
    (hh : qOpIn F n P ops C i K a) : wpOpIn F n P ops Q' i K' a w := by
  unfold qOpIn at hh
  unfold wpOpIn
  cases ho : ops[i]? with
  | none => rw [ho] at hh; exact h _ _ hC hh
  | some o =>
    rw [ho] at hh
    obtain ⟨ha, hh⟩ := hh
    simp only
    cases hw : Region.wanted o (yielded ops a.tmps) with
    | true => rw [hw, if_pos rfl] at hh; rw [if_pos rfl]; exact rnd_op hro (hnd i o ho) hC h ha hh
    | false => rw [hw, if_neg Bool.false_ne_true] at hh; rw [if_neg Bool.false_ne_true]; exact ⟨ha w hC, h _ _ hC hh⟩

theorem rnd_any {Q : Act → Prop} {Q' : Exit → Act → World → Prop} (hro : F.round = some l) (hnd : ∀ (i : Nat) (o : Oper), ops[i]? = some o → ∀ c, o.op ≠ .defer c) (hQ : ∀ a w, C w → Q a → Q' .normal a w) : ∀ (fuel : Nat) (listed : Array Bool) (a : Act) (w : World), C w →
    wpAnyQIn F n P md ops C Q fuel listed a → wpAnyIn F n P md ops Q' fuel listed a w
  | 0, _, _, _, hw, h => ⟨h.1, hQ _ _ hw h.2⟩
  | fuel + 1, _, _, _, hw, h => ⟨fun h0 => hQ _ _ hw (h.1 h0), fun i hi => rnd_at hro hnd hw (fun a' w' hw' => rnd_any hro hnd hQ fuel _ a' w' hw') (h.2 i hi)⟩
end
def noDefer (l : List Oper) : Bool := l.all fun o => match o.op with | .defer _ => false | _ => true
theorem noDefer_spec {l : List Oper} (h : noDefer l = true) (i : Nat) (o : Oper) (ho : l.toArray[i]? = some o) : ∀ c, o.op ≠ .defer c := by
  intro c hc
  have := List.all_eq_true.1 h o (List.mem_of_getElem? (by simpa using ho))
  rw [hc] at this
  cases this
theorem rnd_region {F : Fence} {n : Nat} {P : Program} {id : Nat} {Q : Exit → Act → World → Prop} {a : Act} {w : World} {ol : List Oper} {l : Nat} (hro : F.round = some l) (hnd : noDefer ol = true) (hm : P.follows .mixedOrders = true) (hB : Region.lexB .any ol.toArray = true)
    (h : wpQuietIn F n P ol.toArray (fun u => Below w.heap.size w u) (fun a' => ∀ u, Below w.heap.size w u → Q .normal a' u) ol a) : (Code.region id ol.toArray true).wpIn F n P Q a w := by
  simp only [Region.lexB, Bool.and_eq_true] at hB
  refine wpIn_region_any hm (rnd_any (C := fun u => Below w.heap.size w u) (Q := fun a' => ∀ u, Below w.heap.size w u → Q .normal a' u) hro (noDefer_spec hnd) (fun _ w' hw' h => h w' hw') _ _ _ _ ((Below.refl _ _).drew) ?_)
  have := wpAnyQIn_lex (C := fun u => Below w.heap.size w u) (md := .any) hB.1 ol.toArray.toList 0 (Array.replicate ol.toArray.size false) a (by simp) (by simpa using hB.2) (by simpa using h)
  simpa using this
section
variable {F : Fence} {n : Nat} {P : Program} {ops : Array Oper} {C : World → Prop} {Q : Act → Prop} {a : Act} {o : Oper} {rest : List Oper}
theorem rskip (ha : o.askedIn F P a C) (hw : Region.wanted o (yielded ops a.tmps) = false) (hk : ∀ K : Act → Prop, (∀ a, wpQuietIn F n P ops C Q rest a → K a) → K (a.put o.dst undef)) : wpQuietIn F n P ops C Q (o :: rest) a :=
  BigFrame.wpQuietIn_skip ha hw (hk _ fun _ h => h)
theorem rval {v : Value} (ha : o.askedIn F P a C) (hw : Region.wanted o (yielded ops a.tmps) = true) (h : ∀ u, C u → (execOp a.eval o).run P u = .ok (.value v) u)
    (hk : ∀ K : Act → Prop, (∀ a, wpQuietIn F n P ops C Q rest a → K a) → K (a.put o.dst v)) : wpQuietIn F n P ops C Q (o :: rest) a :=
  BigFrame.wpQuietIn_want ha hw fun K hK => ⟨v, fun u hu => by unfold Oper.quietAtIn; rw [h u hu]; exact ⟨rfl, rfl⟩, hk K hK⟩
theorem rcall {f : FuncId} {args : Array Value} {v : Value} (ha : o.askedIn F P a C) (hd : F.depth.isSome = true → 1 ≤ n) (hw : Region.wanted o (yielded ops a.tmps) = true) (h : ∀ u, C u → (execOp a.eval o).run P u = .ok (.enter f args) u)
    (hc : ∀ u, C u → CallsIn F (n - 1) P f args u fun e u' => e = .returned v ∧ C u') (hk : ∀ K : Act → Prop, (∀ a, wpQuietIn F n P ops C Q rest a → K a) → K (a.put o.dst v)) : wpQuietIn F n P ops C Q (o :: rest) a :=
  BigFrame.wpQuietIn_want ha hw fun K hK => ⟨v, fun u hu => by unfold Oper.quietAtIn; rw [h u hu]; exact ⟨rfl, hd, hc u hu⟩, hk K hK⟩
end
/-- All rights of a table, in its order. -/
def rts (ts : List Th) : List Rt := ts.flatMap (·.slots)
theorem rts_split {ts : List Th} {k : Nat} {t : Th} (h : ts[k]? = some t) : rts ts = rts (ts.take k) ++ (t.slots ++ rts (ts.drop (k + 1))) := by
  have hk : k < ts.length := (List.getElem?_eq_some_iff.1 h).1
  have e : ts = ts.take k ++ t :: ts.drop (k + 1) := by
    have h2 : ts[k] = t := (List.getElem?_eq_some_iff.1 h).2
    rw [← h2, ← List.drop_eq_getElem_cons hk, List.take_append_drop]
  conv => lhs; rw [e]
  simp [rts]
theorem rts_take_succ {ts : List Th} {k : Nat} {t : Th} (h : ts[k]? = some t) : rts (ts.take (k + 1)) = rts (ts.take k) ++ t.slots := by
  have hk : k < ts.length := (List.getElem?_eq_some_iff.1 h).1
  have h2 : ts[k] = t := (List.getElem?_eq_some_iff.1 h).2
  rw [List.take_add_one, h]
  simp [rts]
theorem take_snoc {α : Type} {l : List α} {k : Nat} {x : α} (h : l[k]? = some x) : l.take (k + 1) = l.take k ++ [x] := by
  rw [List.take_add_one, h]; rfl
theorem pre_lt {ts : List Th} {k q : Nat} {t : Th} (h : ts[k]? = some t) (hq : q < t.slots.length) : (rts (ts.take k) ++ t.slots.take q).length < (rts ts).length := by
  rw [rts_split h]; simp; omega
theorem pre_of {ts : List Th} {k q : Nat} {t : Th} (h : ts[k]? = some t) : rts (ts.take k) ++ t.slots.take q <+: rts ts := by
  rw [rts_split h]
  refine ⟨t.slots.drop q ++ rts (ts.drop (k + 1)), ?_⟩
  rw [List.append_assoc, ← List.append_assoc (t.slots.take q), List.take_append_drop]
theorem allRights_in (F : Fence) (n : Nat) (hF : F.fn 63) (hro : F.round = none) (a : Option Addr) (len cap : Nat) (w : World) :
    CallsIn F n Tryd.prog 63 #[.slice a len cap] w fun e w' => e = .returned (.func (.func 92) #[] #[.pointer (some ⟨w.heap.size, 0, none⟩)]) ∧ w' = w.alloc (.cells #[.slice a len cap] 23) := by
  refine callsIn_of_wp Tryd.func63 rfl hF ?_ hro
  simp only [Tryd.ntmps63, List.size_toArray, List.length_cons, List.length_nil, Nat.reduceAdd, Nat.reduceSub, Array.replicate_succ, Array.replicate_zero, List.push_toArray, List.append_toArray, List.nil_append, List.cons_append]
  gi_wp2
  go_ret
  exact ⟨rfl, rfl⟩
def rtV (x : Rt) : Value := .agg #[.int .i64 x.t, .int .i64 x.v, .bool x.r, .bool x.w, .bool x.k]
set_option maxRecDepth 100000 in
set_option maxHeartbeats 4000000 in
theorem allR1_in (F : Fence) (n : Nat) (hF : F.fn 92) (hro : F.round = none) (hn : 1 ≤ n) (l Bs : Nat) (w0 : World) (a : Option Addr) (cap : Nat) (ts : List Th) (hT : RowT w0 a ts) (J Jx : List Rt → World → Prop)
    (W : World) (hJ : AbidesFrom W.heap.size J)
    (hY : ∀ pre x W1, J pre W1 → pre.length < (rts ts).length → YieldAt F (n - 1) Tryd.prog l #[rtV x] W1 fun e W' =>
      (e = .returned (.bool true) ∧ J (pre ++ [x]) W' ∧ Below w0.heap.size W1 W') ∨ (e = .returned (.bool false) ∧ Jx (pre ++ [x]) W'))
    (hW : Below w0.heap.size w0 W) (hBs : W.cell? ⟨Bs, 0, none⟩ = some (.slice a ts.length cap)) (h0 : J [] W) :
    CallsIn F n Tryd.prog 92 #[.func (.yield l) #[] #[], .pointer (some ⟨Bs, 0, none⟩)] W fun e W' => (∃ v, e = .returned v) ∧
      ((∃ xs, xs = rts ts ∧ J xs W') ∨ (∃ pre, pre <+: rts ts ∧ Jx pre W')) := by
  have hml := hT.len
  have HT := hid hT
  clear hT
  obtain ⟨m, em⟩ : ∃ m, m = ts.length := ⟨_, rfl⟩
  rw [← em] at hBs hml
  have EM := hid em
  clear em
  refine callsIn_of_wp Tryd.func92 rfl hF ?_ hro
  simp only [Tryd.ntmps92, List.size_toArray, List.length_cons, List.length_nil, Nat.reduceAdd, Nat.reduceSub, Array.replicate_succ, Array.replicate_zero, List.push_toArray, List.append_toArray, List.nil_append, List.cons_append]
  gi_wp2
  gi_loopw [9] (fun i wr => ∃ k : Nat, k ≤ m ∧ i = .int .i64 k ∧ J (rts (ts.take k)) wr ∧ Below w0.heap.size w0 wr)
    (fun i _ => m - (intOf i).toNat)
  case atStart => exact ⟨0, Nat.zero_le _, rfl, by simpa [rts] using h0, hW⟩
  case round =>
    obtain ⟨k, hk, rfl, hJs, hnx⟩ := hrel
    by_cases hlt : k < m
    · obtain ⟨b, off, t, rfl, hx, hb, h8⟩ := HT.out.at (k := k) (by rw [← EM.out]; exact hlt)
      obtain ⟨sa, sc, qa, qc, c0, c1, c2, c3, c4, c5, c6, c7, hR, hQ⟩ := h8
      replace c0 := (hnx.cell (p := ⟨b, _, none⟩) hb).trans c0
      replace c1 := (hnx.cell (p := ⟨b, _, none⟩) hb).trans c1
      replace c2 := (hnx.cell (p := ⟨b, _, none⟩) hb).trans c2
      replace c3 := (hnx.cell (p := ⟨b, _, none⟩) hb).trans c3
      replace c4 := (hnx.cell (p := ⟨b, _, none⟩) hb).trans c4
      replace c5 := (hnx.cell (p := ⟨b, _, none⟩) hb).trans c5
      replace c6 := (hnx.cell (p := ⟨b, _, none⟩) hb).trans c6
      replace c7 := (hnx.cell (p := ⟨b, _, none⟩) hb).trans c7
      have HX := hid hx
      have HR := hid hR
      have hrl := hR.len
      clear hx hR hQ
      obtain ⟨r, er⟩ : ∃ r, r = t.slots.length := ⟨_, rfl⟩
      rw [← er] at c5 hrl
      have ER := hid er
      clear er
      obtain ⟨q1, eq1⟩ : ∃ q1, q1 = t.queue.length := ⟨_, rfl⟩
      rw [← eq1] at c6
      clear eq1
      have hJa : ∀ (pre : List Rt) (W1 : World) (o : Obj), J pre W1 → J pre (W1.alloc o) := fun pre W1 o h => hJ _ _ _ none h (World.grownBy_alloc W1 o none) (fun r e => by cases e)
      gi_wp2
      gi_loopw [16] (fun i w2 => ∃ q : Nat, q ≤ r ∧ i = .int .i64 q ∧ J (rts (ts.take k) ++ t.slots.take q) w2 ∧ Below w0.heap.size w0 w2)
        (fun i _ => r - (intOf i).toNat)
      case atStart => exact ⟨0, Nat.zero_le _, rfl, by simpa using hJa _ _ _ hJs, hnx.alloc hnx.size _⟩
      case round =>
        clear c0 c1 c2 c3 c4 c5 c6 c7
        obtain ⟨q, hq, rfl, hJ2, hn2⟩ := hrel
        by_cases hqr : q < r
        · obtain ⟨b2, off2, x, rfl, hx2, hb2, h5⟩ := HR.out.at (k := q) (by rw [← ER.out]; exact hqr)
          obtain ⟨d0, d1, d2, d3, d4⟩ := h5.below hn2 hb2
          have HX2 := hid hx2
          clear hx2 h5
          obtain ⟨fn, tmps, assign, body, hy, hR2⟩ := hY _ x _ (hJa _ _ (.cells #[.int .i64 x.t, .int .i64 x.v, .bool x.r, .bool x.w, .bool x.k] 38) hJ2) (pre_lt HX.out (by rw [← ER.out]; exact hqr))
          dsimp only [rtV] at hy
          gi_wp2
          refine hR2.mono ?_
          rintro e W3 (⟨rfl, hJ3, hk3⟩ | ⟨rfl, hJx3⟩)
          · gi_wp2
            go_roundw
            case rel => exact ⟨q + 1, by omega, by simp, by rw [take_snoc HX2.out, ← List.append_assoc]; exact hJ3, (hn2.alloc hn2.size _).trans hk3⟩
            case measure => simp [intOf]; omega
          · gi_wp2
            refine bodyPost_ret (results_none rfl _ _ _) rfl ?_
            refine ⟨⟨_, rfl⟩, .inr ⟨_, ?_, hJx3⟩⟩
            rw [List.append_assoc, ← take_snoc HX2.out]
            exact pre_of HX.out
        · obtain rfl : q = r := by omega
          gi_wp2
          go_roundw
          case rel => exact ⟨k + 1, by omega, by simp, by rw [rts_take_succ HX.out]; rw [ER.out, List.take_length] at hJ2; exact hJ2, hn2⟩
          case measure => simp [intOf]; omega
    · obtain rfl : k = m := by omega
      gi_wp2
      go_end0
      exact ⟨⟨_, rfl⟩, .inl ⟨_, rfl, by rw [EM.out, List.take_length] at hJs; exact hJs⟩⟩
end Go.Proofs.YtcgmnpppdoadhaaDoor
