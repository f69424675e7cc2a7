/-
  No cell of these rows narrows 'for every input' (looked for: loops, veiled, ifaces, maps, wideKeys, modest, calm, conditions, laid).
  DERIVED. THE GIVEN ROWS OF THIS SEAT. 5 by the template 'for every input the law returns true; each argument reads behind the call as it read before'; 0 by the template 'total and deterministic' (their statements: YtmgikgcoigcadaaTotals.lean).
  GIVEN WITH THE SEED: the statements are not yours to turn. If you find one false, say at which input.
  Laid BY PROGRAM, IN A SANDBOX (cutbox-rows.mjs): the forced cells as the released guide's own fill.sh prints them over the translation 355a9d231a4d8ce5… (all of the seat's roots in one cut). By AI agents, Wed Nov 11 2026. No macro, syntax, notation, axiom, sorry.
-/
import Derived.Test.YtmgikgcoigcadaaChecked
import GoSem.Claim
import GoSem.ClaimJoined
import GoSem.ClaimMapViews
import Derived.JoinedTies
import Derived.KernelRfl
namespace Go.Proofs.Ytmgikgcoigcadaa
/- THE CELL 'sum', in the pinned program and in every row, IS THE sha256 OF THE DUMP (.gsa) THAT YtmgikgcoigcadaaProg.lean LOADS. Nothing in Lean hashes anything: it is a label: what it is worth is what the hold of that sum in a sandbox is worth. -/
noncomputable def Try.pinned : Pinned := { name := "ytmgikgcoigcadaa", sum := "355a9d231a4d8ce5ecf912b24c93c2bca871c49673c64c328a9fafdcdfee73fa", checked := Try.checked }
namespace Rows
def none {H : Type} : Left H := { results := [], args := [] }

/-- 'laws.FnExactLabelRead': WHATEVER THE INPUT: true; the input reads as it did. -/
def fnExactLabelReadSpec : ChangeSpec := { name := "fnExactLabelRead", fn := fun _ => fun
  | [d] => { results := [.lit (.bool true)], args := [d] }
  | _ => none }
def fnExactLabelReadRow : OpenClaim := { program := "ytmgikgcoigcadaa", sum := "355a9d231a4d8ce5ecf912b24c93c2bca871c49673c64c328a9fafdcdfee73fa", func := "loop.example/drawbar/laws.FnExactLabelRead", spec := "fnExactLabelRead", recurses := true, apart := false }
def FnExactLabelReadSaid : Prop := fnExactLabelReadRow.holds Try.pinned (OpenSpec.ofChange fnExactLabelReadSpec)

/-- ITS FALSE NEIGHBOUR: 'it returns false'. Refute it at one input. -/
def fnExactLabelReadWrong : ChangeSpec := { name := "fnExactLabelRead", fn := fun _ => fun
  | [d] => { results := [.lit (.bool false)], args := [d] }
  | _ => none }
def FnExactLabelReadWrongFalsely : Prop := fnExactLabelReadRow.holds Try.pinned (OpenSpec.ofChange fnExactLabelReadWrong)

/-- 'laws.FnJoinMarks': WHATEVER THE INPUT: true; the input reads as it did. -/
def fnJoinMarksSpec : ChangeSpec := { name := "fnJoinMarks", fn := fun _ => fun
  | [d] => { results := [.lit (.bool true)], args := [d] }
  | _ => none }
def fnJoinMarksRow : OpenClaim := { program := "ytmgikgcoigcadaa", sum := "355a9d231a4d8ce5ecf912b24c93c2bca871c49673c64c328a9fafdcdfee73fa", func := "loop.example/drawbar/laws.FnJoinMarks", spec := "fnJoinMarks", apart := false }
def FnJoinMarksSaid : Prop := fnJoinMarksRow.holds Try.pinned (OpenSpec.ofChange fnJoinMarksSpec)

/-- ITS FALSE NEIGHBOUR: 'it returns false'. Refute it at one input. -/
def fnJoinMarksWrong : ChangeSpec := { name := "fnJoinMarks", fn := fun _ => fun
  | [d] => { results := [.lit (.bool false)], args := [d] }
  | _ => none }
def FnJoinMarksWrongFalsely : Prop := fnJoinMarksRow.holds Try.pinned (OpenSpec.ofChange fnJoinMarksWrong)

/-- 'laws.FnFlowMarks': WHATEVER THE INPUT: true; the input reads as it did. -/
def fnFlowMarksSpec : ChangeSpec := { name := "fnFlowMarks", fn := fun _ => fun
  | [d] => { results := [.lit (.bool true)], args := [d] }
  | _ => none }
def fnFlowMarksRow : OpenClaim := { program := "ytmgikgcoigcadaa", sum := "355a9d231a4d8ce5ecf912b24c93c2bca871c49673c64c328a9fafdcdfee73fa", func := "loop.example/drawbar/laws.FnFlowMarks", spec := "fnFlowMarks", apart := false }
def FnFlowMarksSaid : Prop := fnFlowMarksRow.holds Try.pinned (OpenSpec.ofChange fnFlowMarksSpec)

/-- ITS FALSE NEIGHBOUR: 'it returns false'. Refute it at one input. -/
def fnFlowMarksWrong : ChangeSpec := { name := "fnFlowMarks", fn := fun _ => fun
  | [d] => { results := [.lit (.bool false)], args := [d] }
  | _ => none }
def FnFlowMarksWrongFalsely : Prop := fnFlowMarksRow.holds Try.pinned (OpenSpec.ofChange fnFlowMarksWrong)

/-- 'laws.FnExactRightText': WHATEVER THE INPUT: true; the input reads as it did. -/
def fnExactRightTextSpec : ChangeSpec := { name := "fnExactRightText", fn := fun _ => fun
  | [d] => { results := [.lit (.bool true)], args := [d] }
  | _ => none }
def fnExactRightTextRow : OpenClaim := { program := "ytmgikgcoigcadaa", sum := "355a9d231a4d8ce5ecf912b24c93c2bca871c49673c64c328a9fafdcdfee73fa", func := "loop.example/drawbar/laws.FnExactRightText", spec := "fnExactRightText", unfollowed := true, recurses := true, apart := false }
def FnExactRightTextSaid : Prop := fnExactRightTextRow.holds Try.pinned (OpenSpec.ofChange fnExactRightTextSpec)

/-- ITS FALSE NEIGHBOUR: 'it returns false'. Refute it at one input. -/
def fnExactRightTextWrong : ChangeSpec := { name := "fnExactRightText", fn := fun _ => fun
  | [d] => { results := [.lit (.bool false)], args := [d] }
  | _ => none }
def FnExactRightTextWrongFalsely : Prop := fnExactRightTextRow.holds Try.pinned (OpenSpec.ofChange fnExactRightTextWrong)

/-- 'laws.FnRightOne': WHATEVER THE INPUT: true; the input reads as it did. -/
def fnRightOneSpec : ChangeSpec := { name := "fnRightOne", fn := fun _ => fun
  | [d1, d2] => { results := [.lit (.bool true)], args := [d1, d2] }
  | _ => none }
def fnRightOneRow : OpenClaim := { program := "ytmgikgcoigcadaa", sum := "355a9d231a4d8ce5ecf912b24c93c2bca871c49673c64c328a9fafdcdfee73fa", func := "loop.example/drawbar/laws.FnRightOne", spec := "fnRightOne", unfollowed := true, recurses := true, apart := false }
def FnRightOneSaid : Prop := fnRightOneRow.holds Try.pinned (OpenSpec.ofChange fnRightOneSpec)

/-- ITS FALSE NEIGHBOUR: 'it returns false'. Refute it at one input. -/
def fnRightOneWrong : ChangeSpec := { name := "fnRightOne", fn := fun _ => fun
  | [d1, d2] => { results := [.lit (.bool false)], args := [d1, d2] }
  | _ => none }
def FnRightOneWrongFalsely : Prop := fnRightOneRow.holds Try.pinned (OpenSpec.ofChange fnRightOneWrong)

/- THE SECOND FORM. 'bulk': how many values and letters a reading holds, each counted each time it is reached (what is shared counts as often as it is met; a slice's spare places count too). A statement '..UptoSaid' is the law's where the arguments, and the package variables that the reading takes, are together of bulk at most 1048576: NARROWER than '..Said'. Prove '..Said' where nothing that the law and all that it calls make is longer than what came in: it says more and counts as full. Else prove '..UptoSaid'. A law counts once. -/
mutual
def uptoBulk {H : Type} : DataW H → Nat
  | .lit (.string bytes) => bytes.length + 1
  | .lit _ => 1
  | .nil => 1
  | .ptr d => uptoBulk d + 1
  | .slice elems spare => uptoBulkAll elems + uptoBulkAll spare + 1
  | .agg parts => uptoBulkAll parts + 1
  | .iface _ d => uptoBulk d + 1
  | .map entries => uptoBulkEntries entries + 1
  | .held _ => 1
def uptoBulkAll {H : Type} : List (DataW H) → Nat
  | [] => 0
  | d :: r => uptoBulk d + uptoBulkAll r
def uptoBulkEntries {H : Type} : List (Lit × DataW H) → Nat
  | [] => 0
  | x :: r => uptoBulkEntry x + uptoBulkEntries r
def uptoBulkEntry {H : Type} : Lit × DataW H → Nat
  | (.string bytes, d) => bytes.length + uptoBulk d + 1
  | (_, d) => uptoBulk d + 1
 end
def uptoSmall : (H : Type) → List (DataW H) → Bool := fun _ ds => decide (uptoBulkAll ds ≤ 1048576)
def OpenSpec.upto (s : _root_.Go.ChangeSpec) : _root_.Go.OpenSpec := { _root_.Go.OpenSpec.ofChange s with cond := some uptoSmall }

/-- 'laws.FnExactLabelRead', WHERE WHAT IT READS IS OF BULK AT MOST 1048576: true; the input reads as it did. -/
def fnExactLabelReadUptoRow : OpenClaim := { program := "ytmgikgcoigcadaa", sum := "355a9d231a4d8ce5ecf912b24c93c2bca871c49673c64c328a9fafdcdfee73fa", func := "loop.example/drawbar/laws.FnExactLabelRead", spec := "fnExactLabelRead", recurses := true, apart := false, narrowed := true }
def FnExactLabelReadUptoSaid : Prop := fnExactLabelReadUptoRow.holds Try.pinned (OpenSpec.upto fnExactLabelReadSpec)

/-- 'laws.FnJoinMarks', WHERE WHAT IT READS IS OF BULK AT MOST 1048576: true; the input reads as it did. -/
def fnJoinMarksUptoRow : OpenClaim := { program := "ytmgikgcoigcadaa", sum := "355a9d231a4d8ce5ecf912b24c93c2bca871c49673c64c328a9fafdcdfee73fa", func := "loop.example/drawbar/laws.FnJoinMarks", spec := "fnJoinMarks", apart := false, narrowed := true }
def FnJoinMarksUptoSaid : Prop := fnJoinMarksUptoRow.holds Try.pinned (OpenSpec.upto fnJoinMarksSpec)

/-- 'laws.FnFlowMarks', WHERE WHAT IT READS IS OF BULK AT MOST 1048576: true; the input reads as it did. -/
def fnFlowMarksUptoRow : OpenClaim := { program := "ytmgikgcoigcadaa", sum := "355a9d231a4d8ce5ecf912b24c93c2bca871c49673c64c328a9fafdcdfee73fa", func := "loop.example/drawbar/laws.FnFlowMarks", spec := "fnFlowMarks", apart := false, narrowed := true }
def FnFlowMarksUptoSaid : Prop := fnFlowMarksUptoRow.holds Try.pinned (OpenSpec.upto fnFlowMarksSpec)

/-- 'laws.FnExactRightText', WHERE WHAT IT READS IS OF BULK AT MOST 1048576: true; the input reads as it did. -/
def fnExactRightTextUptoRow : OpenClaim := { program := "ytmgikgcoigcadaa", sum := "355a9d231a4d8ce5ecf912b24c93c2bca871c49673c64c328a9fafdcdfee73fa", func := "loop.example/drawbar/laws.FnExactRightText", spec := "fnExactRightText", unfollowed := true, recurses := true, apart := false, narrowed := true }
def FnExactRightTextUptoSaid : Prop := fnExactRightTextUptoRow.holds Try.pinned (OpenSpec.upto fnExactRightTextSpec)

/-- 'laws.FnRightOne', WHERE WHAT IT READS IS OF BULK AT MOST 1048576: true; the input reads as it did. -/
def fnRightOneUptoRow : OpenClaim := { program := "ytmgikgcoigcadaa", sum := "355a9d231a4d8ce5ecf912b24c93c2bca871c49673c64c328a9fafdcdfee73fa", func := "loop.example/drawbar/laws.FnRightOne", spec := "fnRightOne", unfollowed := true, recurses := true, apart := false, narrowed := true }
def FnRightOneUptoSaid : Prop := fnRightOneUptoRow.holds Try.pinned (OpenSpec.upto fnRightOneSpec)

end Rows
end Go.Proofs.Ytmgikgcoigcadaa
