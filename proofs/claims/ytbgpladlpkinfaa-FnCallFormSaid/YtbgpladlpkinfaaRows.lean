/-
  No cell of these rows narrows 'for every input' (looked for: loops, veiled, ifaces, maps, wideKeys, modest, calm, conditions, laid).
  DERIVED. THE GIVEN ROWS OF THIS SEAT. 5 by the template 'for every input the law returns true; each argument reads behind the call as it read before'; 0 by the template 'total and deterministic' (their statements: YtbgpladlpkinfaaTotals.lean).
  GIVEN WITH THE SEED: the statements are not yours to turn. If you find one false, say at which input.
  Laid BY PROGRAM, IN A SANDBOX (cutbox-rows.mjs): the forced cells as the released guide's own fill.sh prints them over the translation c6f270c3f3adf63b… (all of the seat's roots in one cut). By AI agents, Wed Nov 11 2026. No macro, syntax, notation, axiom, sorry.
-/
import Derived.Test.YtbgpladlpkinfaaChecked
import GoSem.Claim
import GoSem.ClaimJoined
import GoSem.ClaimMapViews
import Derived.JoinedTies
import Derived.KernelRfl
namespace Go.Proofs.Ytbgpladlpkinfaa
/- THE CELL 'sum', in the pinned program and in every row, IS THE sha256 OF THE DUMP (.gsa) THAT YtbgpladlpkinfaaProg.lean LOADS. Nothing in Lean hashes anything: it is a label: what it is worth is what the hold of that sum in a sandbox is worth. -/
noncomputable def Try.pinned : Pinned := { name := "ytbgpladlpkinfaa", sum := "c6f270c3f3adf63b8b754486c8a28acd843a872bd23afe0f34363ed68f6f8048", checked := Try.checked }
namespace Rows
def none {H : Type} : Left H := { results := [], args := [] }

/-- 'laws.FnExactConstants': WHATEVER THE INPUT: true; the input reads as it did. -/
def fnExactConstantsSpec : ChangeSpec := { name := "fnExactConstants", fn := fun _ => fun
  | [] => { results := [.lit (.bool true)], args := [] }
  | _ => none }
def fnExactConstantsRow : OpenClaim := { program := "ytbgpladlpkinfaa", sum := "c6f270c3f3adf63b8b754486c8a28acd843a872bd23afe0f34363ed68f6f8048", func := "loop.example/drawbar/laws.FnExactConstants", spec := "fnExactConstants", apart := false }
def FnExactConstantsSaid : Prop := fnExactConstantsRow.holds Try.pinned (OpenSpec.ofChange fnExactConstantsSpec)

/-- ITS FALSE NEIGHBOUR: 'it returns false'. Refute it at one input. -/
def fnExactConstantsWrong : ChangeSpec := { name := "fnExactConstants", fn := fun _ => fun
  | [] => { results := [.lit (.bool false)], args := [] }
  | _ => none }
def FnExactConstantsWrongFalsely : Prop := fnExactConstantsRow.holds Try.pinned (OpenSpec.ofChange fnExactConstantsWrong)

/-- 'laws.FnExactLabelOk': WHATEVER THE INPUT: true; the input reads as it did. -/
def fnExactLabelOkSpec : ChangeSpec := { name := "fnExactLabelOk", fn := fun _ => fun
  | [d] => { results := [.lit (.bool true)], args := [d] }
  | _ => none }
def fnExactLabelOkRow : OpenClaim := { program := "ytbgpladlpkinfaa", sum := "c6f270c3f3adf63b8b754486c8a28acd843a872bd23afe0f34363ed68f6f8048", func := "loop.example/drawbar/laws.FnExactLabelOk", spec := "fnExactLabelOk", apart := false }
def FnExactLabelOkSaid : Prop := fnExactLabelOkRow.holds Try.pinned (OpenSpec.ofChange fnExactLabelOkSpec)

/-- ITS FALSE NEIGHBOUR: 'it returns false'. Refute it at one input. -/
def fnExactLabelOkWrong : ChangeSpec := { name := "fnExactLabelOk", fn := fun _ => fun
  | [d] => { results := [.lit (.bool false)], args := [d] }
  | _ => none }
def FnExactLabelOkWrongFalsely : Prop := fnExactLabelOkRow.holds Try.pinned (OpenSpec.ofChange fnExactLabelOkWrong)

/-- 'laws.FnExactCallOk': WHATEVER THE INPUT: true; the input reads as it did. -/
def fnExactCallOkSpec : ChangeSpec := { name := "fnExactCallOk", fn := fun _ => fun
  | [d] => { results := [.lit (.bool true)], args := [d] }
  | _ => none }
def fnExactCallOkRow : OpenClaim := { program := "ytbgpladlpkinfaa", sum := "c6f270c3f3adf63b8b754486c8a28acd843a872bd23afe0f34363ed68f6f8048", func := "loop.example/drawbar/laws.FnExactCallOk", spec := "fnExactCallOk", apart := false }
def FnExactCallOkSaid : Prop := fnExactCallOkRow.holds Try.pinned (OpenSpec.ofChange fnExactCallOkSpec)

/-- ITS FALSE NEIGHBOUR: 'it returns false'. Refute it at one input. -/
def fnExactCallOkWrong : ChangeSpec := { name := "fnExactCallOk", fn := fun _ => fun
  | [d] => { results := [.lit (.bool false)], args := [d] }
  | _ => none }
def FnExactCallOkWrongFalsely : Prop := fnExactCallOkRow.holds Try.pinned (OpenSpec.ofChange fnExactCallOkWrong)

/-- 'laws.FnExactRightOk': WHATEVER THE INPUT: true; the input reads as it did. -/
def fnExactRightOkSpec : ChangeSpec := { name := "fnExactRightOk", fn := fun _ => fun
  | [d] => { results := [.lit (.bool true)], args := [d] }
  | _ => none }
def fnExactRightOkRow : OpenClaim := { program := "ytbgpladlpkinfaa", sum := "c6f270c3f3adf63b8b754486c8a28acd843a872bd23afe0f34363ed68f6f8048", func := "loop.example/drawbar/laws.FnExactRightOk", spec := "fnExactRightOk", apart := false }
def FnExactRightOkSaid : Prop := fnExactRightOkRow.holds Try.pinned (OpenSpec.ofChange fnExactRightOkSpec)

/-- ITS FALSE NEIGHBOUR: 'it returns false'. Refute it at one input. -/
def fnExactRightOkWrong : ChangeSpec := { name := "fnExactRightOk", fn := fun _ => fun
  | [d] => { results := [.lit (.bool false)], args := [d] }
  | _ => none }
def FnExactRightOkWrongFalsely : Prop := fnExactRightOkRow.holds Try.pinned (OpenSpec.ofChange fnExactRightOkWrong)

/-- 'laws.FnCallForm': WHATEVER THE INPUT: true; the input reads as it did. -/
def fnCallFormSpec : ChangeSpec := { name := "fnCallForm", fn := fun _ => fun
  | [d] => { results := [.lit (.bool true)], args := [d] }
  | _ => none }
def fnCallFormRow : OpenClaim := { program := "ytbgpladlpkinfaa", sum := "c6f270c3f3adf63b8b754486c8a28acd843a872bd23afe0f34363ed68f6f8048", func := "loop.example/drawbar/laws.FnCallForm", spec := "fnCallForm", apart := false }
def FnCallFormSaid : Prop := fnCallFormRow.holds Try.pinned (OpenSpec.ofChange fnCallFormSpec)

/-- ITS FALSE NEIGHBOUR: 'it returns false'. Refute it at one input. -/
def fnCallFormWrong : ChangeSpec := { name := "fnCallForm", fn := fun _ => fun
  | [d] => { results := [.lit (.bool false)], args := [d] }
  | _ => none }
def FnCallFormWrongFalsely : Prop := fnCallFormRow.holds Try.pinned (OpenSpec.ofChange fnCallFormWrong)

/- THE SECOND FORM. 'bulk': how many values and letters a reading holds, each counted each time it is reached (what is shared counts as often as it is met; a slice's spare places count too). A statement '..UptoSaid' is the law's where the arguments, and the package variables that the reading takes, are together of bulk at most 1048576: NARROWER than '..Said'. Prove '..Said' where nothing that the law and all that it calls make is longer than what came in: it says more and counts as full. Else prove '..UptoSaid'. A law counts once. -/
mutual
def uptoBulk {H : Type} : DataW H → Nat
  | .lit (.string bytes) => bytes.length + 1
  | .lit _ => 1
  | .nil => 1
  | .ptr d => uptoBulk d + 1
  | .slice elems spare => uptoBulkAll elems + uptoBulkAll spare + 1
  | .agg parts => uptoBulkAll parts + 1
  | .iface _ d => uptoBulk d + 1
  | .map entries => uptoBulkEntries entries + 1
  | .held _ => 1
def uptoBulkAll {H : Type} : List (DataW H) → Nat
  | [] => 0
  | d :: r => uptoBulk d + uptoBulkAll r
def uptoBulkEntries {H : Type} : List (Lit × DataW H) → Nat
  | [] => 0
  | x :: r => uptoBulkEntry x + uptoBulkEntries r
def uptoBulkEntry {H : Type} : Lit × DataW H → Nat
  | (.string bytes, d) => bytes.length + uptoBulk d + 1
  | (_, d) => uptoBulk d + 1
 end
def uptoSmall : (H : Type) → List (DataW H) → Bool := fun _ ds => decide (uptoBulkAll ds ≤ 1048576)
def OpenSpec.upto (s : _root_.Go.ChangeSpec) : _root_.Go.OpenSpec := { _root_.Go.OpenSpec.ofChange s with cond := some uptoSmall }

/-- 'laws.FnExactConstants', WHERE WHAT IT READS IS OF BULK AT MOST 1048576: true; the input reads as it did. -/
def fnExactConstantsUptoRow : OpenClaim := { program := "ytbgpladlpkinfaa", sum := "c6f270c3f3adf63b8b754486c8a28acd843a872bd23afe0f34363ed68f6f8048", func := "loop.example/drawbar/laws.FnExactConstants", spec := "fnExactConstants", apart := false, narrowed := true }
def FnExactConstantsUptoSaid : Prop := fnExactConstantsUptoRow.holds Try.pinned (OpenSpec.upto fnExactConstantsSpec)

/-- 'laws.FnExactLabelOk', WHERE WHAT IT READS IS OF BULK AT MOST 1048576: true; the input reads as it did. -/
def fnExactLabelOkUptoRow : OpenClaim := { program := "ytbgpladlpkinfaa", sum := "c6f270c3f3adf63b8b754486c8a28acd843a872bd23afe0f34363ed68f6f8048", func := "loop.example/drawbar/laws.FnExactLabelOk", spec := "fnExactLabelOk", apart := false, narrowed := true }
def FnExactLabelOkUptoSaid : Prop := fnExactLabelOkUptoRow.holds Try.pinned (OpenSpec.upto fnExactLabelOkSpec)

/-- 'laws.FnExactCallOk', WHERE WHAT IT READS IS OF BULK AT MOST 1048576: true; the input reads as it did. -/
def fnExactCallOkUptoRow : OpenClaim := { program := "ytbgpladlpkinfaa", sum := "c6f270c3f3adf63b8b754486c8a28acd843a872bd23afe0f34363ed68f6f8048", func := "loop.example/drawbar/laws.FnExactCallOk", spec := "fnExactCallOk", apart := false, narrowed := true }
def FnExactCallOkUptoSaid : Prop := fnExactCallOkUptoRow.holds Try.pinned (OpenSpec.upto fnExactCallOkSpec)

/-- 'laws.FnExactRightOk', WHERE WHAT IT READS IS OF BULK AT MOST 1048576: true; the input reads as it did. -/
def fnExactRightOkUptoRow : OpenClaim := { program := "ytbgpladlpkinfaa", sum := "c6f270c3f3adf63b8b754486c8a28acd843a872bd23afe0f34363ed68f6f8048", func := "loop.example/drawbar/laws.FnExactRightOk", spec := "fnExactRightOk", apart := false, narrowed := true }
def FnExactRightOkUptoSaid : Prop := fnExactRightOkUptoRow.holds Try.pinned (OpenSpec.upto fnExactRightOkSpec)

/-- 'laws.FnCallForm', WHERE WHAT IT READS IS OF BULK AT MOST 1048576: true; the input reads as it did. -/
def fnCallFormUptoRow : OpenClaim := { program := "ytbgpladlpkinfaa", sum := "c6f270c3f3adf63b8b754486c8a28acd843a872bd23afe0f34363ed68f6f8048", func := "loop.example/drawbar/laws.FnCallForm", spec := "fnCallForm", apart := false, narrowed := true }
def FnCallFormUptoSaid : Prop := fnCallFormUptoRow.holds Try.pinned (OpenSpec.upto fnCallFormSpec)

end Rows
end Go.Proofs.Ytbgpladlpkinfaa
