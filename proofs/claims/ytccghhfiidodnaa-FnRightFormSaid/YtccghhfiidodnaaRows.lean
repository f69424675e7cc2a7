/-
  No cell of these rows narrows 'for every input' (looked for: loops, veiled, ifaces, maps, wideKeys, modest, calm, conditions, laid).
  DERIVED. THE GIVEN ROWS OF THIS SEAT. 8 by the template 'for every input the law returns true; each argument reads behind the call as it read before'; 0 by the template 'total and deterministic' (their statements: YtccghhfiidodnaaTotals.lean).
  GIVEN WITH THE SEED: the statements are not yours to turn. If you find one false, say at which input.
  Laid BY PROGRAM, IN A SANDBOX (cutbox-rows.mjs): the forced cells as the released guide's own fill.sh prints them over the translation a416cbf41dc97362… (all of the seat's roots in one cut). By AI agents, Wed Nov 11 2026. No macro, syntax, notation, axiom, sorry.
-/
import Derived.Test.YtccghhfiidodnaaChecked
import GoSem.Claim
import GoSem.ClaimJoined
import GoSem.ClaimMapViews
import Derived.JoinedTies
import Derived.KernelRfl
namespace Go.Proofs.Ytccghhfiidodnaa
/- THE CELL 'sum', in the pinned program and in every row, IS THE sha256 OF THE DUMP (.gsa) THAT YtccghhfiidodnaaProg.lean LOADS. Nothing in Lean hashes anything: it is a label: what it is worth is what the hold of that sum in a sandbox is worth. -/
noncomputable def Try.pinned : Pinned := { name := "ytccghhfiidodnaa", sum := "a416cbf41dc9736250167da6789244a3163d215423b19dec1ca3ddfc1bf34b8c", checked := Try.checked }
namespace Rows
def none {H : Type} : Left H := { results := [], args := [] }

/-- 'laws.FnExactRightIn': WHATEVER THE INPUT: true; the input reads as it did. -/
def fnExactRightInSpec : ChangeSpec := { name := "fnExactRightIn", fn := fun _ => fun
  | [d1, d2] => { results := [.lit (.bool true)], args := [d1, d2] }
  | _ => none }
def fnExactRightInRow : OpenClaim := { program := "ytccghhfiidodnaa", sum := "a416cbf41dc9736250167da6789244a3163d215423b19dec1ca3ddfc1bf34b8c", func := "loop.example/drawbar/laws.FnExactRightIn", spec := "fnExactRightIn", apart := false }
def FnExactRightInSaid : Prop := fnExactRightInRow.holds Try.pinned (OpenSpec.ofChange fnExactRightInSpec)

/-- ITS FALSE NEIGHBOUR: 'it returns false'. Refute it at one input. -/
def fnExactRightInWrong : ChangeSpec := { name := "fnExactRightIn", fn := fun _ => fun
  | [d1, d2] => { results := [.lit (.bool false)], args := [d1, d2] }
  | _ => none }
def FnExactRightInWrongFalsely : Prop := fnExactRightInRow.holds Try.pinned (OpenSpec.ofChange fnExactRightInWrong)

/-- 'laws.FnRightForm': WHATEVER THE INPUT: true; the input reads as it did. -/
def fnRightFormSpec : ChangeSpec := { name := "fnRightForm", fn := fun _ => fun
  | [d] => { results := [.lit (.bool true)], args := [d] }
  | _ => none }
def fnRightFormRow : OpenClaim := { program := "ytccghhfiidodnaa", sum := "a416cbf41dc9736250167da6789244a3163d215423b19dec1ca3ddfc1bf34b8c", func := "loop.example/drawbar/laws.FnRightForm", spec := "fnRightForm", apart := false }
def FnRightFormSaid : Prop := fnRightFormRow.holds Try.pinned (OpenSpec.ofChange fnRightFormSpec)

/-- ITS FALSE NEIGHBOUR: 'it returns false'. Refute it at one input. -/
def fnRightFormWrong : ChangeSpec := { name := "fnRightForm", fn := fun _ => fun
  | [d] => { results := [.lit (.bool false)], args := [d] }
  | _ => none }
def FnRightFormWrongFalsely : Prop := fnRightFormRow.holds Try.pinned (OpenSpec.ofChange fnRightFormWrong)

/-- 'laws.FnExactRightLess': WHATEVER THE INPUT: true; the input reads as it did. -/
def fnExactRightLessSpec : ChangeSpec := { name := "fnExactRightLess", fn := fun _ => fun
  | [d1, d2, d3, d4] => { results := [.lit (.bool true)], args := [d1, d2, d3, d4] }
  | _ => none }
def fnExactRightLessRow : OpenClaim := { program := "ytccghhfiidodnaa", sum := "a416cbf41dc9736250167da6789244a3163d215423b19dec1ca3ddfc1bf34b8c", func := "loop.example/drawbar/laws.FnExactRightLess", spec := "fnExactRightLess", unfollowed := true, recurses := true, apart := false }
def FnExactRightLessSaid : Prop := fnExactRightLessRow.holds Try.pinned (OpenSpec.ofChange fnExactRightLessSpec)

/-- ITS FALSE NEIGHBOUR: 'it returns false'. Refute it at one input. -/
def fnExactRightLessWrong : ChangeSpec := { name := "fnExactRightLess", fn := fun _ => fun
  | [d1, d2, d3, d4] => { results := [.lit (.bool false)], args := [d1, d2, d3, d4] }
  | _ => none }
def FnExactRightLessWrongFalsely : Prop := fnExactRightLessRow.holds Try.pinned (OpenSpec.ofChange fnExactRightLessWrong)

/-- 'laws.FnLessMost': WHATEVER THE INPUT: true; the input reads as it did. -/
def fnLessMostSpec : ChangeSpec := { name := "fnLessMost", fn := fun _ => fun
  | [d] => { results := [.lit (.bool true)], args := [d] }
  | _ => none }
def fnLessMostRow : OpenClaim := { program := "ytccghhfiidodnaa", sum := "a416cbf41dc9736250167da6789244a3163d215423b19dec1ca3ddfc1bf34b8c", func := "loop.example/drawbar/laws.FnLessMost", spec := "fnLessMost", unfollowed := true, recurses := true, apart := false }
def FnLessMostSaid : Prop := fnLessMostRow.holds Try.pinned (OpenSpec.ofChange fnLessMostSpec)

/-- ITS FALSE NEIGHBOUR: 'it returns false'. Refute it at one input. -/
def fnLessMostWrong : ChangeSpec := { name := "fnLessMost", fn := fun _ => fun
  | [d] => { results := [.lit (.bool false)], args := [d] }
  | _ => none }
def FnLessMostWrongFalsely : Prop := fnLessMostRow.holds Try.pinned (OpenSpec.ofChange fnLessMostWrong)

/-- 'laws.FnLessTwo': WHATEVER THE INPUT: true; the input reads as it did. -/
def fnLessTwoSpec : ChangeSpec := { name := "fnLessTwo", fn := fun _ => fun
  | [d1, d2] => { results := [.lit (.bool true)], args := [d1, d2] }
  | _ => none }
def fnLessTwoRow : OpenClaim := { program := "ytccghhfiidodnaa", sum := "a416cbf41dc9736250167da6789244a3163d215423b19dec1ca3ddfc1bf34b8c", func := "loop.example/drawbar/laws.FnLessTwo", spec := "fnLessTwo", unfollowed := true, recurses := true, apart := false }
def FnLessTwoSaid : Prop := fnLessTwoRow.holds Try.pinned (OpenSpec.ofChange fnLessTwoSpec)

/-- ITS FALSE NEIGHBOUR: 'it returns false'. Refute it at one input. -/
def fnLessTwoWrong : ChangeSpec := { name := "fnLessTwo", fn := fun _ => fun
  | [d1, d2] => { results := [.lit (.bool false)], args := [d1, d2] }
  | _ => none }
def FnLessTwoWrongFalsely : Prop := fnLessTwoRow.holds Try.pinned (OpenSpec.ofChange fnLessTwoWrong)

/-- 'laws.FnLess': WHATEVER THE INPUT: true; the input reads as it did. -/
def fnLessSpec : ChangeSpec := { name := "fnLess", fn := fun _ => fun
  | [d] => { results := [.lit (.bool true)], args := [d] }
  | _ => none }
def fnLessRow : OpenClaim := { program := "ytccghhfiidodnaa", sum := "a416cbf41dc9736250167da6789244a3163d215423b19dec1ca3ddfc1bf34b8c", func := "loop.example/drawbar/laws.FnLess", spec := "fnLess", unfollowed := true, recurses := true, apart := false }
def FnLessSaid : Prop := fnLessRow.holds Try.pinned (OpenSpec.ofChange fnLessSpec)

/-- ITS FALSE NEIGHBOUR: 'it returns false'. Refute it at one input. -/
def fnLessWrong : ChangeSpec := { name := "fnLess", fn := fun _ => fun
  | [d] => { results := [.lit (.bool false)], args := [d] }
  | _ => none }
def FnLessWrongFalsely : Prop := fnLessRow.holds Try.pinned (OpenSpec.ofChange fnLessWrong)

/-- 'laws.FnRightIn': WHATEVER THE INPUT: true; the input reads as it did. -/
def fnRightInSpec : ChangeSpec := { name := "fnRightIn", fn := fun _ => fun
  | [d] => { results := [.lit (.bool true)], args := [d] }
  | _ => none }
def fnRightInRow : OpenClaim := { program := "ytccghhfiidodnaa", sum := "a416cbf41dc9736250167da6789244a3163d215423b19dec1ca3ddfc1bf34b8c", func := "loop.example/drawbar/laws.FnRightIn", spec := "fnRightIn", apart := false }
def FnRightInSaid : Prop := fnRightInRow.holds Try.pinned (OpenSpec.ofChange fnRightInSpec)

/-- ITS FALSE NEIGHBOUR: 'it returns false'. Refute it at one input. -/
def fnRightInWrong : ChangeSpec := { name := "fnRightIn", fn := fun _ => fun
  | [d] => { results := [.lit (.bool false)], args := [d] }
  | _ => none }
def FnRightInWrongFalsely : Prop := fnRightInRow.holds Try.pinned (OpenSpec.ofChange fnRightInWrong)

/-- 'laws.FnRightThree': WHATEVER THE INPUT: true; the input reads as it did. -/
def fnRightThreeSpec : ChangeSpec := { name := "fnRightThree", fn := fun _ => fun
  | [d1, d2] => { results := [.lit (.bool true)], args := [d1, d2] }
  | _ => none }
def fnRightThreeRow : OpenClaim := { program := "ytccghhfiidodnaa", sum := "a416cbf41dc9736250167da6789244a3163d215423b19dec1ca3ddfc1bf34b8c", func := "loop.example/drawbar/laws.FnRightThree", spec := "fnRightThree", unfollowed := true, recurses := true, apart := false }
def FnRightThreeSaid : Prop := fnRightThreeRow.holds Try.pinned (OpenSpec.ofChange fnRightThreeSpec)

/-- ITS FALSE NEIGHBOUR: 'it returns false'. Refute it at one input. -/
def fnRightThreeWrong : ChangeSpec := { name := "fnRightThree", fn := fun _ => fun
  | [d1, d2] => { results := [.lit (.bool false)], args := [d1, d2] }
  | _ => none }
def FnRightThreeWrongFalsely : Prop := fnRightThreeRow.holds Try.pinned (OpenSpec.ofChange fnRightThreeWrong)

/- THE SECOND FORM. 'bulk': how many values and letters a reading holds, each counted each time it is reached (what is shared counts as often as it is met; a slice's spare places count too). A statement '..UptoSaid' is the law's where the arguments, and the package variables that the reading takes, are together of bulk at most 1048576: NARROWER than '..Said'. Prove '..Said' where nothing that the law and all that it calls make is longer than what came in: it says more and counts as full. Else prove '..UptoSaid'. A law counts once. -/
mutual
def uptoBulk {H : Type} : DataW H → Nat
  | .lit (.string bytes) => bytes.length + 1
  | .lit _ => 1
  | .nil => 1
  | .ptr d => uptoBulk d + 1
  | .slice elems spare => uptoBulkAll elems + uptoBulkAll spare + 1
  | .agg parts => uptoBulkAll parts + 1
  | .iface _ d => uptoBulk d + 1
  | .map entries => uptoBulkEntries entries + 1
  | .held _ => 1
def uptoBulkAll {H : Type} : List (DataW H) → Nat
  | [] => 0
  | d :: r => uptoBulk d + uptoBulkAll r
def uptoBulkEntries {H : Type} : List (Lit × DataW H) → Nat
  | [] => 0
  | x :: r => uptoBulkEntry x + uptoBulkEntries r
def uptoBulkEntry {H : Type} : Lit × DataW H → Nat
  | (.string bytes, d) => bytes.length + uptoBulk d + 1
  | (_, d) => uptoBulk d + 1
 end
def uptoSmall : (H : Type) → List (DataW H) → Bool := fun _ ds => decide (uptoBulkAll ds ≤ 1048576)
def OpenSpec.upto (s : _root_.Go.ChangeSpec) : _root_.Go.OpenSpec := { _root_.Go.OpenSpec.ofChange s with cond := some uptoSmall }

/-- 'laws.FnExactRightIn', WHERE WHAT IT READS IS OF BULK AT MOST 1048576: true; the input reads as it did. -/
def fnExactRightInUptoRow : OpenClaim := { program := "ytccghhfiidodnaa", sum := "a416cbf41dc9736250167da6789244a3163d215423b19dec1ca3ddfc1bf34b8c", func := "loop.example/drawbar/laws.FnExactRightIn", spec := "fnExactRightIn", apart := false, narrowed := true }
def FnExactRightInUptoSaid : Prop := fnExactRightInUptoRow.holds Try.pinned (OpenSpec.upto fnExactRightInSpec)

/-- 'laws.FnRightForm', WHERE WHAT IT READS IS OF BULK AT MOST 1048576: true; the input reads as it did. -/
def fnRightFormUptoRow : OpenClaim := { program := "ytccghhfiidodnaa", sum := "a416cbf41dc9736250167da6789244a3163d215423b19dec1ca3ddfc1bf34b8c", func := "loop.example/drawbar/laws.FnRightForm", spec := "fnRightForm", apart := false, narrowed := true }
def FnRightFormUptoSaid : Prop := fnRightFormUptoRow.holds Try.pinned (OpenSpec.upto fnRightFormSpec)

/-- 'laws.FnExactRightLess', WHERE WHAT IT READS IS OF BULK AT MOST 1048576: true; the input reads as it did. -/
def fnExactRightLessUptoRow : OpenClaim := { program := "ytccghhfiidodnaa", sum := "a416cbf41dc9736250167da6789244a3163d215423b19dec1ca3ddfc1bf34b8c", func := "loop.example/drawbar/laws.FnExactRightLess", spec := "fnExactRightLess", unfollowed := true, recurses := true, apart := false, narrowed := true }
def FnExactRightLessUptoSaid : Prop := fnExactRightLessUptoRow.holds Try.pinned (OpenSpec.upto fnExactRightLessSpec)

/-- 'laws.FnLessMost', WHERE WHAT IT READS IS OF BULK AT MOST 1048576: true; the input reads as it did. -/
def fnLessMostUptoRow : OpenClaim := { program := "ytccghhfiidodnaa", sum := "a416cbf41dc9736250167da6789244a3163d215423b19dec1ca3ddfc1bf34b8c", func := "loop.example/drawbar/laws.FnLessMost", spec := "fnLessMost", unfollowed := true, recurses := true, apart := false, narrowed := true }
def FnLessMostUptoSaid : Prop := fnLessMostUptoRow.holds Try.pinned (OpenSpec.upto fnLessMostSpec)

/-- 'laws.FnLessTwo', WHERE WHAT IT READS IS OF BULK AT MOST 1048576: true; the input reads as it did. -/
def fnLessTwoUptoRow : OpenClaim := { program := "ytccghhfiidodnaa", sum := "a416cbf41dc9736250167da6789244a3163d215423b19dec1ca3ddfc1bf34b8c", func := "loop.example/drawbar/laws.FnLessTwo", spec := "fnLessTwo", unfollowed := true, recurses := true, apart := false, narrowed := true }
def FnLessTwoUptoSaid : Prop := fnLessTwoUptoRow.holds Try.pinned (OpenSpec.upto fnLessTwoSpec)

/-- 'laws.FnLess', WHERE WHAT IT READS IS OF BULK AT MOST 1048576: true; the input reads as it did. -/
def fnLessUptoRow : OpenClaim := { program := "ytccghhfiidodnaa", sum := "a416cbf41dc9736250167da6789244a3163d215423b19dec1ca3ddfc1bf34b8c", func := "loop.example/drawbar/laws.FnLess", spec := "fnLess", unfollowed := true, recurses := true, apart := false, narrowed := true }
def FnLessUptoSaid : Prop := fnLessUptoRow.holds Try.pinned (OpenSpec.upto fnLessSpec)

/-- 'laws.FnRightIn', WHERE WHAT IT READS IS OF BULK AT MOST 1048576: true; the input reads as it did. -/
def fnRightInUptoRow : OpenClaim := { program := "ytccghhfiidodnaa", sum := "a416cbf41dc9736250167da6789244a3163d215423b19dec1ca3ddfc1bf34b8c", func := "loop.example/drawbar/laws.FnRightIn", spec := "fnRightIn", apart := false, narrowed := true }
def FnRightInUptoSaid : Prop := fnRightInUptoRow.holds Try.pinned (OpenSpec.upto fnRightInSpec)

/-- 'laws.FnRightThree', WHERE WHAT IT READS IS OF BULK AT MOST 1048576: true; the input reads as it did. -/
def fnRightThreeUptoRow : OpenClaim := { program := "ytccghhfiidodnaa", sum := "a416cbf41dc9736250167da6789244a3163d215423b19dec1ca3ddfc1bf34b8c", func := "loop.example/drawbar/laws.FnRightThree", spec := "fnRightThree", unfollowed := true, recurses := true, apart := false, narrowed := true }
def FnRightThreeUptoSaid : Prop := fnRightThreeUptoRow.holds Try.pinned (OpenSpec.upto fnRightThreeSpec)

end Rows
end Go.Proofs.Ytccghhfiidodnaa
