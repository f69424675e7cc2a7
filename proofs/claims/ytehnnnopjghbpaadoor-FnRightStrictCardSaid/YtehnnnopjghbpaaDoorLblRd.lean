/- Contracts of the reading of labels, of the program and of the reference: each computes its plain function of the text's bytes and makes at most new blocks. No condition. -/
import Derived.Test.YtehnnnopjghbpaaDoorTxt
import Derived.Test.YtehnnnopjghbpaaDoorLab
import Derived.BigRegion
import Derived.RegionTactic
namespace Go.Proofs.YtehnnnopjghbpaaDoor
set_option maxRecDepth 100000
open Go.RowKit
set_option linter.unusedVariables false

/-- The two numbers of a text of three bytes, and whether it is that of a label. -/
def rdOk (a b c : UInt8) : Bool := (b == 47) && lblOk ((a.toNat : Int) - 48) ((c.toNat : Int) - 48)
def rdS (a b c : UInt8) : Int := if rdOk a b c then (a.toNat : Int) - 48 else 0
def rdV (a b c : UInt8) : Int := if rdOk a b c then (c.toNat : Int) - 48 else 0
theorem txt_toList (l : List UInt8) : (txt l).toList = l := ByteArray.toList_mk l
theorem dig_byte (a : UInt8) (h0 : 48 ≤ a.toNat) : dig (a.toNat - 48) = a := by
  apply UInt8.toNat_inj.1
  unfold dig
  rw [UInt8.toNat_ofNat']
  have := a.toNat_lt
  omega
theorem rd_txt (a b c : UInt8) : ((txt (lblTxt ((a.toNat : Int) - 48) ((c.toNat : Int) - 48))).toList == [a, b, c]) = rdOk a b c := by
  rw [txt_toList]
  unfold lblTxt rdOk
  cases e : lblOk ((a.toNat : Int) - 48) ((c.toNat : Int) - 48)
  · simp
  · obtain ⟨b1, b2, b3, b4⟩ := lblOk_bd e
    have h1 : ((a.toNat : Int) - 48).toNat = a.toNat - 48 := by omega
    have h2 : ((c.toNat : Int) - 48).toNat = c.toNat - 48 := by omega
    rw [h1, h2, dec_small _ (by omega), dec_small _ (by omega), dig_byte a (by omega), dig_byte c (by omega)]
    simp
    rw [Bool.eq_iff_iff]
    simp
    exact ⟨fun h => h.symm, fun h => h.symm⟩
theorem three_bytes {s : ByteArray} (h : s.size = 3) : ∃ a b c : UInt8, s = ⟨#[a, b, c]⟩ := by
  obtain ⟨⟨l⟩⟩ := s
  match l, h with
  | [a, b, c], _ => exact ⟨a, b, c, rfl⟩
end Go.Proofs.YtehnnnopjghbpaaDoor
