/- Plain laws on the texts of rights and labels: a text tells what it is of. No program in sight. No condition. -/
import Derived.Test.YtcgmnpppdoadhaaDoorRgtTxt
namespace Go.Proofs.YtcgmnpppdoadhaaDoor
set_option maxRecDepth 100000
open Go.RowKit
set_option linter.unusedVariables false

theorem dig_inj {a b : Nat} (ha : a < 10) (hb : b < 10) (h : dig a = dig b) : a = b := by
  have := congrArg UInt8.toNat h
  unfold dig at this
  rw [UInt8.toNat_ofNat', UInt8.toNat_ofNat'] at this
  omega
theorem flc_inj {a b : Bool} {c : UInt8} (hc : c ≠ 45) (h : flc a c = flc b c) : a = b := by
  cases a <;> cases b <;> simp [flc] at h ⊢
  · exact hc h.symm
  · exact hc h
theorem rgt_null {t v : Int} {r w k : Bool} (h : rgtOk t v r w k = true) (ht : t = 0) : v = 0 ∧ r = false ∧ w = false ∧ k = false := by
  subst ht
  simp [rgtOk, rgtNull, inB] at h
  exact ⟨h.1.1.1, h.1.1.2, h.1.2, h.2⟩
theorem rgtTxt_inj {t1 v1 : Int} {r1 w1 k1 : Bool} {t2 v2 : Int} {r2 w2 k2 : Bool} (h1 : rgtOk t1 v1 r1 w1 k1 = true) (h2 : rgtOk t2 v2 r2 w2 k2 = true) :
    (rgtTxt t1 v1 r1 w1 k1 == rgtTxt t2 v2 r2 w2 k2) = rgtEq t1 v1 r1 w1 k1 t2 v2 r2 w2 k2 := by
  obtain ⟨a1, a2, a3, a4⟩ := rgtOk_bd h1
  obtain ⟨b1, b2, b3, b4⟩ := rgtOk_bd h2
  rw [Bool.eq_iff_iff]
  unfold rgtTxt
  rw [h1, h2]
  simp only [if_true]
  rw [dec_small t1.toNat (by omega), dec_small v1.toNat (by omega), dec_small t2.toNat (by omega), dec_small v2.toNat (by omega)]
  by_cases e1 : t1 = 0
  · obtain ⟨c1, c2, c3, c4⟩ := rgt_null h1 e1
    by_cases e2 : t2 = 0
    · obtain ⟨d1, d2, d3, d4⟩ := rgt_null h2 e2
      simp [e1, e2, c1, c2, c3, c4, d1, d2, d3, d4, rgtEq]
    · simp [e1, e2, rgtEq]
      intro h
      exact absurd h.symm e2
  · by_cases e2 : t2 = 0
    · simp [e1, e2, rgtEq]
    · simp [e1, e2, rgtEq]
      constructor
      · rintro ⟨g1, g2, g3, g4, g5⟩
        have := dig_inj (by omega) (by omega) g1
        have := dig_inj (by omega) (by omega) g2
        exact ⟨⟨⟨⟨by omega, by omega⟩, flc_inj (by decide) g3⟩, flc_inj (by decide) g4⟩, flc_inj (by decide) g5⟩
      · rintro ⟨⟨⟨⟨rfl, rfl⟩, rfl⟩, rfl⟩, rfl⟩
        simp
theorem rgtTxt_ne {t v : Int} {r w k : Bool} : (rgtTxt t v r w k == []) = !rgtOk t v r w k := by
  unfold rgtTxt
  cases e : rgtOk t v r w k
  · simp
  · cases e2 : (t == 0)
    · simp
    · simp
end Go.Proofs.YtcgmnpppdoadhaaDoor
