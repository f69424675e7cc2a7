/- The plain laws of rights: containment and lessening. No program in sight, no condition but that the rights are such. -/
import Derived.Test.YtccghhfiidodnaaBase
namespace Go.Proofs.Ytccghhfiidodnaa
set_option linter.unusedVariables false

/-- A right is to nothing, and then it is nothing; or to a thing. -/
theorem rgtOk_cases {t v : Int} {r w k : Bool} (h : rgtOk t v r w k = true) :
    (t = 0 ∧ v = 0 ∧ r = false ∧ w = false ∧ k = false) ∨ (1 ≤ t ∧ t ≤ 8 ∧ 0 ≤ v ∧ v ≤ 5 ∧ (k && w) = false) := by
  simp only [rgtOk, rgtNull, inB, Bool.or_eq_true, Bool.and_eq_true, decide_eq_true_eq, Bool.not_eq_true'] at h
  rcases h with ⟨⟨⟨⟨h1, h2⟩, h3⟩, h4⟩, h5⟩ | ⟨⟨⟨h1, h2⟩, h3, h4⟩, h5⟩
  · exact .inl ⟨h1, h2, h3, h4, h5⟩
  · exact .inr ⟨h1, h2, h3, h4, h5⟩
theorem rgtOk_some {t v : Int} {r w k : Bool} (h1 : 1 ≤ t) (h2 : t ≤ 8) (h3 : 0 ≤ v) (h4 : v ≤ 5) (h5 : (k && w) = false) : rgtOk t v r w k = true := by
  simp only [rgtOk, inB, h5, Bool.or_eq_true, Bool.and_eq_true, decide_eq_true_eq]
  exact .inr ⟨⟨⟨h1, h2⟩, h3, h4⟩, rfl⟩
theorem rgtOk_none : rgtOk 0 0 false false false = true := by decide

theorem lessT_eq {t v : Int} {r w k : Bool} (h : rgtOk t v r w k = true) : lessT t v r w k = t := by simp [lessT, h]
theorem lessV_eq {t v : Int} {r w k : Bool} (h : rgtOk t v r w k = true) : lessV t v r w k = v := by simp [lessV, h]
theorem less_ok {t v : Int} {r w k : Bool} (h : rgtOk t v r w k = true) (a b c : Bool) : rgtOk t v (lessR t v r w k a) (lessW t v r w k b c) (lessK t v r w k c) = true := by
  rcases rgtOk_cases h with ⟨rfl, rfl, rfl, rfl, rfl⟩ | ⟨h1, h2, h3, h4, h5⟩
  · simp [lessR, lessW, lessK, rgtOk_none]
  · refine rgtOk_some h1 h2 h3 h4 ?_
    have ht : ¬ t = 0 := by omega
    simp only [lessW, lessK, h, ht]
    cases w <;> cases k <;> cases b <;> cases c <;> simp_all
theorem less_all {t v : Int} {r w k : Bool} (h : rgtOk t v r w k = true) : lessR t v r w k true = r ∧ lessW t v r w k true true = w ∧ lessK t v r w k true = k := by
  rcases rgtOk_cases h with ⟨rfl, rfl, rfl, rfl, rfl⟩ | ⟨h1, h2, h3, h4, h5⟩
  · simp [lessR, lessW, lessK]
  · have ht : ¬ t = 0 := by omega
    simp [lessR, lessW, lessK, h, ht]
theorem less_again {t v : Int} {r w k : Bool} (h : rgtOk t v r w k = true) (a b c : Bool) :
    lessR t v (lessR t v r w k a) (lessW t v r w k b c) (lessK t v r w k c) a = lessR t v r w k a ∧
    lessW t v (lessR t v r w k a) (lessW t v r w k b c) (lessK t v r w k c) b c = lessW t v r w k b c ∧
    lessK t v (lessR t v r w k a) (lessW t v r w k b c) (lessK t v r w k c) c = lessK t v r w k c := by
  have h' := less_ok h a b c
  unfold lessR lessW lessK at h' ⊢
  rw [h'] 
  simp only [h]
  cases r <;> cases w <;> cases k <;> cases a <;> cases b <;> cases c <;> cases decide (t = 0) <;> simp
theorem less_comm {t v : Int} {r w k : Bool} (h : rgtOk t v r w k = true) (a b c a' b' c' : Bool) :
    lessR t v (lessR t v r w k a) (lessW t v r w k b c) (lessK t v r w k c) a' = lessR t v (lessR t v r w k a') (lessW t v r w k b' c') (lessK t v r w k c') a ∧
    lessW t v (lessR t v r w k a) (lessW t v r w k b c) (lessK t v r w k c) b' c' = lessW t v (lessR t v r w k a') (lessW t v r w k b' c') (lessK t v r w k c') b c ∧
    lessK t v (lessR t v r w k a) (lessW t v r w k b c) (lessK t v r w k c) c' = lessK t v (lessR t v r w k a') (lessW t v r w k b' c') (lessK t v r w k c') c := by
  have h' := less_ok h a b c
  have h'' := less_ok h a' b' c'
  unfold lessR lessW lessK at h' h'' ⊢
  rw [h', h'']
  simp only [h, Bool.true_and]
  refine ⟨?_, ?_, ?_⟩
  · cases r <;> cases a <;> cases a' <;> rfl
  · cases w <;> cases b <;> cases c <;> cases b' <;> cases c' <;> rfl
  · cases k <;> cases c <;> cases c' <;> cases decide (t = 0) <;> rfl
theorem less_in {t v : Int} {r w k : Bool} (h : rgtOk t v r w k = true) (a b c : Bool) : rgtInB t v (lessR t v r w k a) (lessW t v r w k b c) (lessK t v r w k c) t v r w k = true := by
  have h' := less_ok h a b c
  unfold rgtInB
  rw [h', h]
  rcases rgtOk_cases h with ⟨rfl, rfl, rfl, rfl, rfl⟩ | ⟨h1, h2, h3, h4, h5⟩
  · simp [rgtIn]
  · have ht : ¬ t = 0 := by omega
    simp only [rgtIn, lessR, lessW, lessK, h, ht, Bool.true_and]
    cases r <;> cases w <;> cases k <;> cases a <;> cases b <;> cases c <;> simp
theorem in_refl {t v : Int} {r w k : Bool} (h : rgtOk t v r w k = true) : rgtInB t v r w k t v r w k = true := by
  simp [rgtInB, rgtIn, h]
theorem in_none {t v : Int} {r w k : Bool} (h : rgtOk t v r w k = true) : rgtInB 0 0 false false false t v r w k = true := by
  simp [rgtInB, rgtIn, h, rgtOk_none]
theorem bimp {a b : Bool} (h : (!a) = true ∨ b = true) (h' : (!b) = true ∨ a = true) : a = b := by cases a <;> cases b <;> simp at h h' ⊢
theorem in_antisymm {t1 v1 : Int} {r1 w1 k1 : Bool} {t2 v2 : Int} {r2 w2 k2 : Bool} (h1 : rgtInB t1 v1 r1 w1 k1 t2 v2 r2 w2 k2 = true) (h2 : rgtInB t2 v2 r2 w2 k2 t1 v1 r1 w1 k1 = true) :
    t1 = t2 ∧ v1 = v2 ∧ r1 = r2 ∧ w1 = w2 ∧ k1 = k2 := by
  simp only [rgtInB, Bool.and_eq_true] at h1 h2
  obtain ⟨⟨a, b⟩, c⟩ := h1
  obtain ⟨_, d⟩ := h2
  simp only [rgtIn, Bool.or_eq_true, Bool.and_eq_true, decide_eq_true_eq] at c d
  rcases rgtOk_cases a with ⟨rfl, rfl, rfl, rfl, rfl⟩ | ⟨h1, h2, h3, h4, h5⟩ <;> rcases rgtOk_cases b with ⟨rfl, rfl, rfl, rfl, rfl⟩ | ⟨h1', h2', h3', h4', h5'⟩
  · simp
  · exfalso
    rcases d with d | d
    · omega
    · have := d.1.1.1.1; omega
  · exfalso
    rcases c with c | c
    · omega
    · have := c.1.1.1.1; omega
  · rcases c with c | c
    · omega
    rcases d with d | d
    · omega
    obtain ⟨⟨⟨⟨c1, c2⟩, c3⟩, c4⟩, c5⟩ := c
    obtain ⟨⟨⟨_, d3⟩, d4⟩, d5⟩ := d
    refine ⟨c1, c2, ?_, ?_, ?_⟩
    · exact bimp c3 d3
    · exact bimp c4 d4
    · exact bimp d5.symm c5.symm
theorem in_trans {t1 v1 : Int} {r1 w1 k1 : Bool} {t2 v2 : Int} {r2 w2 k2 : Bool} {t3 v3 : Int} {r3 w3 k3 : Bool} (h1 : rgtInB t1 v1 r1 w1 k1 t2 v2 r2 w2 k2 = true) (h2 : rgtInB t2 v2 r2 w2 k2 t3 v3 r3 w3 k3 = true) :
    rgtInB t1 v1 r1 w1 k1 t3 v3 r3 w3 k3 = true := by
  simp only [rgtInB, Bool.and_eq_true] at *
  obtain ⟨⟨a, b⟩, c⟩ := h1
  obtain ⟨⟨_, b'⟩, d⟩ := h2
  refine ⟨⟨a, b'⟩, ?_⟩
  simp only [rgtIn, Bool.or_eq_true, Bool.and_eq_true, decide_eq_true_eq] at c d ⊢
  rcases c with c | ⟨⟨⟨⟨c1, c2⟩, c3⟩, c4⟩, c5⟩
  · exact .inl c
  rcases d with d | ⟨⟨⟨⟨d1, d2⟩, d3⟩, d4⟩, d5⟩
  · exact .inl (by omega)
  · refine .inr ⟨⟨⟨⟨by omega, by omega⟩, ?_⟩, ?_⟩, ?_⟩
    · cases r1 <;> cases r2 <;> simp_all
    · cases w1 <;> cases w2 <;> simp_all
    · cases k1 <;> cases k2 <;> simp_all
end Go.Proofs.Ytccghhfiidodnaa
