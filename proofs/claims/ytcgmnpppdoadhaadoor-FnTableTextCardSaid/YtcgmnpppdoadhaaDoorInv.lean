/- A rule for a statement whose order of evaluation is open: an invariant over the set of operations that have run serves every order. No condition; no program in sight. -/
import Derived.WalkKit
import Derived.Orders
import Derived.Deep.Quiet
import Derived.BigQuiet
namespace Go.Proofs.YtcgmnpppdoadhaaDoor
set_option maxRecDepth 100000
open Go

/-- Every operation waits for earlier ones alone. -/
def backB (ops : Array Oper) : Bool := (List.range ops.size).all fun i => ((ops[i]?).map (·.after.all fun e => decide (e.on < i) || !Region.binds .any e)).getD true

theorem backB_spec {ops : Array Oper} (h : backB ops = true) {i : Nat} {o : Oper} (ho : ops[i]? = some o) {e : Edge} (he : e ∈ o.after) (hbe : Region.binds .any e = true) : e.on < i := by
  have hi : i < ops.size := (Array.getElem?_eq_some_iff.1 ho).1
  have h1 := List.all_eq_true.1 h i (List.mem_range.2 hi)
  rw [ho] at h1
  simp only [Option.map_some, Option.getD_some] at h1
  obtain ⟨k, hk, rfl⟩ := Array.mem_iff_getElem.1 he
  have := (Array.all_eq_true.1 h1) k hk
  simpa [hbe] using this

theorem getD_flip {listed : Array Bool} {i : Nat} (hi : i < listed.size) (a b : Bool) : listed.getD i a = listed.getD i b := by simp [hi]

/-- Where nothing may come up, all has come up. -/
theorem all_listed {ops : Array Oper} {listed : Array Bool} (hb : backB ops = true) (hs : listed.size = ops.size) (hr : Region.ready .any ops listed = []) : ∀ i, i < ops.size → listed.getD i true = true := by
  intro i
  induction i using Nat.strongRecOn with
  | _ i ih =>
    intro hi
    cases hl : listed.getD i true with
    | true => rfl
    | false =>
      exfalso
      have hm : i ∈ Region.ready .any ops listed := by
        refine mem_ready.2 ⟨hl, ops[i], by simp [hi], fun e he hbe => ?_⟩
        have hlt : e.on < i := backB_spec hb (i := i) (o := ops[i]) (by simp [hi]) he hbe
        have := ih e.on hlt (by omega)
        rw [getD_flip (by omega) false true]
        exact this
      rw [hr] at hm
      cases hm

theorem wpAny_inv {P : Program} {ops : Array Oper} {Q : Exit → Act → World → Prop} (hb : backB ops = true) (I : Array Bool → Act → World → Prop)
    (hstep : ∀ (i : Nat) (o : Oper) (listed : Array Bool) (a : Act) (w : World), ops[i]? = some o → listed.size = ops.size → listed.getD i true = false →
      (∀ e ∈ o.after, Region.binds .any e = true → listed.getD e.on false = true) → I listed a w → wpOp P ops Q i (fun a' w' => I (listed.setIfInBounds i true) a' w') a w)
    (hend : ∀ (listed : Array Bool) (a : Act) (w : World), (∀ i, i < ops.size → listed.getD i true = true) → listed.size = ops.size → I listed a w → Q .normal a w) :
    ∀ (fuel : Nat) (listed : Array Bool) (a : Act) (w : World), listed.size = ops.size → listed.toList.count false ≤ fuel → I listed a w → wpAny P .any ops Q fuel listed a w := by
  intro fuel
  induction fuel with
  | zero =>
    intro listed a w hs hc hI
    have hall : ∀ i, i < ops.size → listed.getD i true = true := by
      intro i hi
      cases hl : listed.getD i true with
      | true => rfl
      | false =>
        exfalso
        have hi' : i < listed.toList.length := by simpa [hs] using hi
        have : false ∈ listed.toList := by
          have e : listed.toList[i] = false := by
            have : listed.getD i true = listed.toList[i] := by simp [hs, hi]
            rw [← this]; exact hl
          rw [← e]; exact List.getElem_mem hi'
        have := List.count_pos_iff.2 this
        omega
    refine ⟨?_, hend listed a w hall hs hI⟩
    apply List.eq_nil_iff_forall_not_mem.2
    intro i hi
    obtain ⟨hl, o, ho, _⟩ := mem_ready.1 hi
    have := hall i (Array.getElem?_eq_some_iff.1 ho).1
    rw [hl] at this
    cases this
  | succ fuel ih =>
    intro listed a w hs hc hI
    refine ⟨fun hr => hend listed a w (all_listed hb hs hr) hs hI, fun i hi => ?_⟩
    obtain ⟨hl, o, ho, he⟩ := mem_ready.1 hi
    refine wpOp_mono (fun a' w' h => ih (listed.setIfInBounds i true) a' w' (by simpa using hs) ?_ h) (hstep i o listed a w ho hs hl he hI)
    have hil : i < listed.toList.length := by
      have := (Array.getElem?_eq_some_iff.1 ho).1
      simp; omega
    have e : listed.toList[i] = false := by
      have : listed.getD i true = listed.toList[i] := by simp at hil; simp [hil]
      rw [← this]; exact hl
    have hpos : 0 < listed.toList.count false := List.count_pos_iff.2 (by rw [← e]; exact List.getElem_mem hil)
    rw [Array.toList_setIfInBounds, List.count_set hil, e]
    generalize listed.toList.count false = c at hc hpos ⊢
    have h1 : (if (false == false) = true then 1 else 0 : Nat) = 1 := rfl
    have h2 : (if (true == false) = true then 1 else 0 : Nat) = 0 := rfl
    rw [h1, h2]
    omega

/-- **An invariant over the set of operations that have run.** -/
theorem wp_region_inv {P : Program} {id : Nat} {l : List Oper} {Q : Exit → Act → World → Prop} {a : Act} {w : World} (hm : P.follows .mixedOrders = true) (hb : backB l.toArray = true)
    (I : List Bool → Act → World → Prop) (h0 : I (List.replicate l.length false) a w.drew)
    (hstep : ∀ (i : Nat) (o : Oper) (b : List Bool) (a : Act) (w : World), l[i]? = some o → b.length = l.length → b[i]? = some false →
      (∀ e ∈ o.after, Region.binds .any e = true → b[e.on]? = some true) → I b a w → wpOp P l.toArray Q i (fun a' w' => I (b.set i true) a' w') a w)
    (hend : ∀ (a : Act) (w : World), I (List.replicate l.length true) a w → Q .normal a w) : (Code.region id l.toArray true).wp P Q a w := by
  refine wp_region_any hm ?_
  refine wpAny_inv hb (fun listed => I listed.toList) ?_ ?_ _ _ _ _ (by simp) (by simp) (by simpa using h0)
  · intro i o listed a w ho hs hl he hI
    have hil : i < listed.size := by
      have := (Array.getElem?_eq_some_iff.1 ho).1
      omega
    have := hstep i o listed.toList a w (by simpa using ho) (by simpa using hs) ?_ ?_ hI
    · refine wpOp_mono (fun a' w' h => ?_) this
      rw [Array.toList_setIfInBounds]
      exact h
    · simp [hil] at hl ⊢; exact hl
    · intro e hee hbe
      have hlt : e.on < i := backB_spec hb ho hee hbe
      have h1 := he e hee hbe
      have : e.on < listed.size := by omega
      simp [this] at h1 ⊢; exact h1
  · intro listed a w hall hs hI
    refine hend a w ?_
    have : listed.toList = List.replicate l.length true := by
      apply List.ext_getElem
      · simp; simpa using hs
      · intro i h1 h2
        have hi : i < l.length := by simpa using h2
        have := hall i (by simpa using hi)
        have hi' : i < listed.size := by simpa using h1
        simp [hi'] at this
        simp [this]
    rw [← this]
    exact hI

/-- The world under a name. -/
theorem named {p : World → Prop} (w : World) (h : ∀ W, w = W → p W) : p w := h w rfl

/-- A fact for each operation of a list, with its number. -/
def Each : List Oper → Nat → (Nat → Oper → Prop) → Prop
  | [], _, _ => True
  | o :: l, i, p => p i o ∧ Each l (i + 1) p

theorem Each.get {p : Nat → Oper → Prop} : ∀ {l : List Oper} {k : Nat}, Each l k p → ∀ {i : Nat} {o : Oper}, l[i]? = some o → p (k + i) o
  | [], _, _, _, _, h => by simp at h
  | o :: l, k, ⟨h0, h1⟩, i, q, h => by
    cases i with
    | zero => simp at h; subst h; exact h0
    | succ i =>
      have := Each.get h1 (i := i) (o := q) (by simpa using h)
      rwa [Nat.add_right_comm, Nat.add_assoc k i 1] at this

/-- What has come up is closed under 'waits for'. -/
def Closed (l : List Oper) (b : List Bool) : Prop := ∀ (j : Nat) (o : Oper), l[j]? = some o → b[j]? = some true → ∀ e ∈ o.after, Region.binds .any e = true → b[e.on]? = some true

theorem set_true {b : List Bool} {i k : Nat} (h : b[k]? = some true) : (b.set i true)[k]? = some true := by
  have hk : k < b.length := by
    rcases Nat.lt_or_ge k b.length with h' | h'
    · exact h'
    · rw [List.getElem?_eq_none h'] at h; cases h
  by_cases e : i = k
  · subst e; simp [hk]
  · rw [List.getElem?_set_ne e]; exact h

theorem last_false {l : List Oper} {b : List Bool} {L i : Nat} {o : Oper} (hcl : Closed l b) (hbl : b.length = l.length) (hl : l[L]? = some o)
    (he : (o.after.any fun e => Region.binds .any e && e.on == i) = true) (hbi : b[i]? = some false) : b[L]? = some false := by
  have hL : L < b.length := by rw [hbl]; exact (List.getElem?_eq_some_iff.1 hl).1
  cases hq : b[L] with
  | false => rw [List.getElem?_eq_getElem hL, hq]
  | true =>
    exfalso
    obtain ⟨e, hee, hb⟩ := Array.any_eq_true'.1 he
    simp only [Bool.and_eq_true, beq_iff_eq] at hb
    have := hcl L o hl (by rw [List.getElem?_eq_getElem hL, hq]) e hee hb.1
    rw [hb.2, hbi] at this
    cases this

/-- How many of the numbered operations have run. -/
def Cnt (b : List Bool) : List Nat → Nat
  | [] => 0
  | j :: js => (if b[j]? = some true then 1 else 0) + Cnt b js
theorem Cnt_other {b : List Bool} {i : Nat} : ∀ {js : List Nat}, i ∉ js → Cnt (b.set i true) js = Cnt b js
  | [], _ => rfl
  | j :: js, h => by
    have h1 : i ≠ j := fun e => h (by simp [e])
    have h2 : i ∉ js := fun e => h (by simp [e])
    simp only [Cnt, List.getElem?_set_ne h1, Cnt_other h2]
theorem Cnt_self {b : List Bool} {i : Nat} (hb : b[i]? = some false) : ∀ {js : List Nat}, js.Nodup → i ∈ js → Cnt (b.set i true) js = Cnt b js + 1
  | [], _, h => by cases h
  | j :: js, hn, h => by
    have hlt : i < b.length := (List.getElem?_eq_some_iff.1 hb).1
    rw [List.nodup_cons] at hn
    by_cases e : i = j
    · subst e
      have h1 : (b.set i true)[i]? = some true := by simp [hlt]
      simp only [Cnt, h1, hb, Cnt_other hn.1]
      simp [Nat.add_comm]
    · have h2 : i ∈ js := by rcases List.mem_cons.1 h with h | h; exact absurd h e; exact h
      simp only [Cnt, List.getElem?_set_ne e, Cnt_self hb hn.2 h2]
      omega
theorem Cnt_le (b : List Bool) : ∀ js : List Nat, Cnt b js ≤ js.length
  | [] => Nat.le_refl _
  | j :: js => by
    have := Cnt_le b js
    simp only [Cnt, List.length_cons]
    split <;> omega

/-- **The rule, an obligation an operation.** None is guarded. -/
theorem wp_region_each {P : Program} {id : Nat} {l : List Oper} {Q : Exit → Act → World → Prop} {a : Act} {w : World} (hm : P.follows .mixedOrders = true) (hb : backB l.toArray = true) (hg : (l.all fun o => o.guard.isNone) = true)
    (I : List Bool → Act → World → Prop) (h0 : I (List.replicate l.length false) a w.drew)
    (hstep : Each l 0 fun i o => ∀ (b : List Bool) (a : Act) (w : World), b.length = l.length → b[i]? = some false → Closed l b → (∀ e ∈ o.after, Region.binds .any e = true → b[e.on]? = some true) → I b a w →
      ∀ K : Act → World → Prop, (∀ a' w', I (b.set i true) a' w' → K a' w') → o.wp P a w K Q)
    (hend : ∀ (a : Act) (w : World), I (List.replicate l.length true) a w → Q .normal a w) : (Code.region id l.toArray true).wp P Q a w := by
  refine wp_region_inv hm hb (fun b a w => I b a w ∧ Closed l b) ⟨h0, fun j o hj hbj => ?_⟩ (fun i o b a w ho hs hbi he hI => ?_) (fun a w h => hend a w h.1)
  · rw [List.getElem?_replicate] at hbj
    split at hbj <;> cases hbj
  have h := Each.get hstep ho
  rw [Nat.zero_add] at h
  have hog : o.guard = none := by
    have := List.all_eq_true.1 hg o (List.mem_of_getElem? ho)
    simpa using this
  unfold wpOp
  rw [show l.toArray[i]? = some o from by simpa using ho]
  simp only [Region.wanted, hog, if_true]
  refine .inl (h b a w hs hbi hI.2 he hI.1 _ fun a' w' h' => ⟨h', fun j oj hj hbj e hee hbe => set_true ?_⟩)
  by_cases hij : i = j
  · subst hij
    rw [ho] at hj
    cases hj
    exact he e hee hbe
  · rw [List.getElem?_set_ne hij] at hbj
    exact hI.2 j oj hj hbj e hee hbe

/-! ### A block of the walk's own, known whole -/
open Go.RowKit
theorem Below.drewN' {B : Nat} {a w : World} (h : Below B a w) (n : Nat) : Below B a (w.drewN n) := h.trans ⟨rfl, rfl, rfl, Nat.le_refl _, fun _ _ => rfl⟩
theorem own_lt {u : World} {B : Nat} {o : Obj} (h : u.heap[B]? = some o) : B < u.heap.size := (Array.getElem?_eq_some_iff.1 h).1
theorem own_below {u u' : World} {B : Nat} {o : Obj} (hR : Below u.heap.size u u') (h : u.heap[B]? = some o) : u'.heap[B]? = some o := (hR.block B (own_lt h)).trans h
theorem own_eq {u W : World} (h : u = W) {B : Nat} {o : Obj} (hO : u.heap[B]? = some o) : W.heap[B]? = some o := h ▸ hO
theorem own_new (u : World) (o : Obj) : (u.alloc o).heap[u.heap.size]? = some o := by show (u.heap.push o)[u.heap.size]? = some o; simp
theorem own_alloc {u : World} {B : Nat} {o : Obj} (h : u.heap[B]? = some o) (o' : Obj) : (u.alloc o').heap[B]? = some o := own_below ((Below.refl _ _).alloc (Nat.le_refl _) _) h
theorem own_cells {u : World} {B : Nat} {cs : Array Value} {T : TypeId} (h : u.heap[B]? = some (.cells cs T (0, 0))) :
    (∀ o, u.cell? ⟨B, o, none⟩ = cs[o]?) ∧ (∀ o, u.frozen? ⟨B, o, none⟩ = false) := by
  constructor <;> intro o
  · simp [World.cell?, h]
  · simp [World.frozen?, h]
theorem own_set {u : World} {B : Nat} {cs : Array Value} {T : TypeId} {fr : Nat × Nat} (h : u.heap[B]? = some (.cells cs T fr)) (o : Nat) (v : Value) :
    (u.setCell ⟨B, o, none⟩ v).heap[B]? = some (.cells (cs.setIfInBounds o v) T fr) := by
  simp [World.setCell, Array.getElem?_modify, h]
theorem own_set_ne {u : World} {B : Nat} {o : Obj} (h : u.heap[B]? = some o) {p : Addr} (hp : p.block ≠ B) (v : Value) : (u.setCell p v).heap[B]? = some o := by
  rw [Below.heap_setCell _ _ _ _ (Ne.symm hp)]; exact h

/-! ### A region whose values do not hang on the order, in every world that has grown: Derived/Deep/Quiet's rule at that class -/
section
variable {P : Program} {ops : Array Oper} {C : World → Prop} {Q : Act → Prop} {a : Act} {o : Oper} {rest : List Oper}
theorem qskip (hw : Region.wanted o (yielded ops a.tmps) = false) (hk : ∀ K : Act → Prop, (∀ a, wpQuiet P ops C Q rest a → K a) → K (a.put o.dst undef)) : wpQuiet P ops C Q (o :: rest) a :=
  BigFrame.wpQuiet_skip hw (hk _ fun _ h => h)
theorem qval {v : Value} (hw : Region.wanted o (yielded ops a.tmps) = true) (h : ∀ u, C u → (execOp a.eval o).run P u = .ok (.value v) u)
    (hk : ∀ K : Act → Prop, (∀ a, wpQuiet P ops C Q rest a → K a) → K (a.put o.dst v)) : wpQuiet P ops C Q (o :: rest) a :=
  BigFrame.wpQuiet_want hw fun K hK => ⟨v, fun u hu => by unfold Oper.quietAt; rw [h u hu]; exact ⟨rfl, rfl⟩, hk K hK⟩
theorem qcall {f : FuncId} {args : Array Value} {v : Value} (hw : Region.wanted o (yielded ops a.tmps) = true) (h : ∀ u, C u → (execOp a.eval o).run P u = .ok (.enter f args) u)
    (hc : ∀ u, C u → Calls P f args u fun e u' => e = .returned v ∧ C u') (hk : ∀ K : Act → Prop, (∀ a, wpQuiet P ops C Q rest a → K a) → K (a.put o.dst v)) : wpQuiet P ops C Q (o :: rest) a :=
  BigFrame.wpQuiet_want hw fun K hK => ⟨v, fun u hu => by unfold Oper.quietAt; rw [h u hu]; exact ⟨rfl, hc u hu⟩, hk K hK⟩
end
theorem wp_region_quiet_below {P : Program} {id : Nat} {Q : Exit → Act → World → Prop} {a : Act} {w : World} {l : List Oper} (hm : P.follows .mixedOrders = true) (hB : Region.lexB .any l.toArray = true)
    (h : wpQuiet P l.toArray (fun u => Below w.heap.size w u) (fun a' => ∀ u, Below w.heap.size w u → Q .normal a' u) l a) : (Code.region id l.toArray true).wp P Q a w :=
  wp_region_quiet (C := fun u => Below w.heap.size w u) hm hB (Below.refl _ _).drew (by simpa using h)
/-- A callee's contract, in the class. -/
theorem Calls.in_below {P : Program} {f : FuncId} {args : Array Value} {W u : World} {v : Value} (hu : Below W.heap.size W u)
    (h : Calls P f args u fun e u' => e = .returned v ∧ Below u.heap.size u u') : Calls P f args u fun e u' => e = .returned v ∧ Below W.heap.size W u' :=
  h.mono fun _ _ ⟨he, hb⟩ => ⟨he, hu.trans (hb.mono hu.size)⟩
theorem Calls.in_same {P : Program} {f : FuncId} {args : Array Value} {W u : World} {v : Value} (hu : Below W.heap.size W u)
    (h : Calls P f args u fun e u' => e = .returned v ∧ u = u') : Calls P f args u fun e u' => e = .returned v ∧ Below W.heap.size W u' :=
  h.mono fun _ _ ⟨he, hb⟩ => ⟨he, hb ▸ hu⟩
end Go.Proofs.YtcgmnpppdoadhaaDoor
