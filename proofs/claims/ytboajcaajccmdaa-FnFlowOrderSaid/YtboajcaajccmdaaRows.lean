/-
  No cell of these rows narrows 'for every input' (looked for: loops, veiled, ifaces, maps, wideKeys, modest, calm, conditions, laid).
  DERIVED. THE GIVEN ROWS OF THIS SEAT. 12 by the template 'for every input the law returns true; each argument reads behind the call as it read before'; 0 by the template 'total and deterministic' (their statements: YtboajcaajccmdaaTotals.lean).
  GIVEN WITH THE SEED: the statements are not yours to turn. If you find one false, say at which input.
  Laid BY PROGRAM, IN A SANDBOX (cutbox-rows.mjs): the forced cells as the released guide's own fill.sh prints them over the translation 8ac7c2bbfd46081f… (all of the seat's roots in one cut). By AI agents, Wed Nov 11 2026. No macro, syntax, notation, axiom, sorry.
-/
import Derived.Test.YtboajcaajccmdaaChecked
import GoSem.Claim
import GoSem.ClaimJoined
import GoSem.ClaimMapViews
import Derived.JoinedTies
import Derived.KernelRfl
namespace Go.Proofs.Ytboajcaajccmdaa
/- THE CELL 'sum', in the pinned program and in every row, IS THE sha256 OF THE DUMP (.gsa) THAT YtboajcaajccmdaaProg.lean LOADS. Nothing in Lean hashes anything: it is a label: what it is worth is what the hold of that sum in a sandbox is worth. -/
noncomputable def Try.pinned : Pinned := { name := "ytboajcaajccmdaa", sum := "8ac7c2bbfd46081fa85635ea78b965ee85eb3ed4f503b715c0bebb02d1c41962", checked := Try.checked }
namespace Rows
def none {H : Type} : Left H := { results := [], args := [] }

/-- 'laws.FnExactLabelFlow': WHATEVER THE INPUT: true; the input reads as it did. -/
def fnExactLabelFlowSpec : ChangeSpec := { name := "fnExactLabelFlow", fn := fun _ => fun
  | [d1, d2] => { results := [.lit (.bool true)], args := [d1, d2] }
  | _ => none }
def fnExactLabelFlowRow : OpenClaim := { program := "ytboajcaajccmdaa", sum := "8ac7c2bbfd46081fa85635ea78b965ee85eb3ed4f503b715c0bebb02d1c41962", func := "loop.example/drawbar/laws.FnExactLabelFlow", spec := "fnExactLabelFlow", apart := false }
def FnExactLabelFlowSaid : Prop := fnExactLabelFlowRow.holds Try.pinned (OpenSpec.ofChange fnExactLabelFlowSpec)

/-- ITS FALSE NEIGHBOUR: 'it returns false'. Refute it at one input. -/
def fnExactLabelFlowWrong : ChangeSpec := { name := "fnExactLabelFlow", fn := fun _ => fun
  | [d1, d2] => { results := [.lit (.bool false)], args := [d1, d2] }
  | _ => none }
def FnExactLabelFlowWrongFalsely : Prop := fnExactLabelFlowRow.holds Try.pinned (OpenSpec.ofChange fnExactLabelFlowWrong)

/-- 'laws.FnExactLabelJoin': WHATEVER THE INPUT: true; the input reads as it did. -/
def fnExactLabelJoinSpec : ChangeSpec := { name := "fnExactLabelJoin", fn := fun _ => fun
  | [d1, d2] => { results := [.lit (.bool true)], args := [d1, d2] }
  | _ => none }
def fnExactLabelJoinRow : OpenClaim := { program := "ytboajcaajccmdaa", sum := "8ac7c2bbfd46081fa85635ea78b965ee85eb3ed4f503b715c0bebb02d1c41962", func := "loop.example/drawbar/laws.FnExactLabelJoin", spec := "fnExactLabelJoin", apart := false }
def FnExactLabelJoinSaid : Prop := fnExactLabelJoinRow.holds Try.pinned (OpenSpec.ofChange fnExactLabelJoinSpec)

/-- ITS FALSE NEIGHBOUR: 'it returns false'. Refute it at one input. -/
def fnExactLabelJoinWrong : ChangeSpec := { name := "fnExactLabelJoin", fn := fun _ => fun
  | [d1, d2] => { results := [.lit (.bool false)], args := [d1, d2] }
  | _ => none }
def FnExactLabelJoinWrongFalsely : Prop := fnExactLabelJoinRow.holds Try.pinned (OpenSpec.ofChange fnExactLabelJoinWrong)

/-- 'laws.FnExactLabelMeet': WHATEVER THE INPUT: true; the input reads as it did. -/
def fnExactLabelMeetSpec : ChangeSpec := { name := "fnExactLabelMeet", fn := fun _ => fun
  | [d1, d2] => { results := [.lit (.bool true)], args := [d1, d2] }
  | _ => none }
def fnExactLabelMeetRow : OpenClaim := { program := "ytboajcaajccmdaa", sum := "8ac7c2bbfd46081fa85635ea78b965ee85eb3ed4f503b715c0bebb02d1c41962", func := "loop.example/drawbar/laws.FnExactLabelMeet", spec := "fnExactLabelMeet", apart := false }
def FnExactLabelMeetSaid : Prop := fnExactLabelMeetRow.holds Try.pinned (OpenSpec.ofChange fnExactLabelMeetSpec)

/-- ITS FALSE NEIGHBOUR: 'it returns false'. Refute it at one input. -/
def fnExactLabelMeetWrong : ChangeSpec := { name := "fnExactLabelMeet", fn := fun _ => fun
  | [d1, d2] => { results := [.lit (.bool false)], args := [d1, d2] }
  | _ => none }
def FnExactLabelMeetWrongFalsely : Prop := fnExactLabelMeetRow.holds Try.pinned (OpenSpec.ofChange fnExactLabelMeetWrong)

/-- 'laws.FnExactLabelRead': WHATEVER THE INPUT: true; the input reads as it did. -/
def fnExactLabelReadSpec : ChangeSpec := { name := "fnExactLabelRead", fn := fun _ => fun
  | [d] => { results := [.lit (.bool true)], args := [d] }
  | _ => none }
def fnExactLabelReadRow : OpenClaim := { program := "ytboajcaajccmdaa", sum := "8ac7c2bbfd46081fa85635ea78b965ee85eb3ed4f503b715c0bebb02d1c41962", func := "loop.example/drawbar/laws.FnExactLabelRead", spec := "fnExactLabelRead", recurses := true, apart := false }
def FnExactLabelReadSaid : Prop := fnExactLabelReadRow.holds Try.pinned (OpenSpec.ofChange fnExactLabelReadSpec)

/-- ITS FALSE NEIGHBOUR: 'it returns false'. Refute it at one input. -/
def fnExactLabelReadWrong : ChangeSpec := { name := "fnExactLabelRead", fn := fun _ => fun
  | [d] => { results := [.lit (.bool false)], args := [d] }
  | _ => none }
def FnExactLabelReadWrongFalsely : Prop := fnExactLabelReadRow.holds Try.pinned (OpenSpec.ofChange fnExactLabelReadWrong)

/-- 'laws.FnJoinMarks': WHATEVER THE INPUT: true; the input reads as it did. -/
def fnJoinMarksSpec : ChangeSpec := { name := "fnJoinMarks", fn := fun _ => fun
  | [d] => { results := [.lit (.bool true)], args := [d] }
  | _ => none }
def fnJoinMarksRow : OpenClaim := { program := "ytboajcaajccmdaa", sum := "8ac7c2bbfd46081fa85635ea78b965ee85eb3ed4f503b715c0bebb02d1c41962", func := "loop.example/drawbar/laws.FnJoinMarks", spec := "fnJoinMarks", apart := false }
def FnJoinMarksSaid : Prop := fnJoinMarksRow.holds Try.pinned (OpenSpec.ofChange fnJoinMarksSpec)

/-- ITS FALSE NEIGHBOUR: 'it returns false'. Refute it at one input. -/
def fnJoinMarksWrong : ChangeSpec := { name := "fnJoinMarks", fn := fun _ => fun
  | [d] => { results := [.lit (.bool false)], args := [d] }
  | _ => none }
def FnJoinMarksWrongFalsely : Prop := fnJoinMarksRow.holds Try.pinned (OpenSpec.ofChange fnJoinMarksWrong)

/-- 'laws.FnJoinThree': WHATEVER THE INPUT: true; the input reads as it did. -/
def fnJoinThreeSpec : ChangeSpec := { name := "fnJoinThree", fn := fun _ => fun
  | [d1, d2] => { results := [.lit (.bool true)], args := [d1, d2] }
  | _ => none }
def fnJoinThreeRow : OpenClaim := { program := "ytboajcaajccmdaa", sum := "8ac7c2bbfd46081fa85635ea78b965ee85eb3ed4f503b715c0bebb02d1c41962", func := "loop.example/drawbar/laws.FnJoinThree", spec := "fnJoinThree", apart := false }
def FnJoinThreeSaid : Prop := fnJoinThreeRow.holds Try.pinned (OpenSpec.ofChange fnJoinThreeSpec)

/-- ITS FALSE NEIGHBOUR: 'it returns false'. Refute it at one input. -/
def fnJoinThreeWrong : ChangeSpec := { name := "fnJoinThree", fn := fun _ => fun
  | [d1, d2] => { results := [.lit (.bool false)], args := [d1, d2] }
  | _ => none }
def FnJoinThreeWrongFalsely : Prop := fnJoinThreeRow.holds Try.pinned (OpenSpec.ofChange fnJoinThreeWrong)

/-- 'laws.FnFlowLeast': WHATEVER THE INPUT: true; the input reads as it did. -/
def fnFlowLeastSpec : ChangeSpec := { name := "fnFlowLeast", fn := fun _ => fun
  | [d] => { results := [.lit (.bool true)], args := [d] }
  | _ => none }
def fnFlowLeastRow : OpenClaim := { program := "ytboajcaajccmdaa", sum := "8ac7c2bbfd46081fa85635ea78b965ee85eb3ed4f503b715c0bebb02d1c41962", func := "loop.example/drawbar/laws.FnFlowLeast", spec := "fnFlowLeast", apart := false }
def FnFlowLeastSaid : Prop := fnFlowLeastRow.holds Try.pinned (OpenSpec.ofChange fnFlowLeastSpec)

/-- ITS FALSE NEIGHBOUR: 'it returns false'. Refute it at one input. -/
def fnFlowLeastWrong : ChangeSpec := { name := "fnFlowLeast", fn := fun _ => fun
  | [d] => { results := [.lit (.bool false)], args := [d] }
  | _ => none }
def FnFlowLeastWrongFalsely : Prop := fnFlowLeastRow.holds Try.pinned (OpenSpec.ofChange fnFlowLeastWrong)

/-- 'laws.FnFlowMarks': WHATEVER THE INPUT: true; the input reads as it did. -/
def fnFlowMarksSpec : ChangeSpec := { name := "fnFlowMarks", fn := fun _ => fun
  | [d] => { results := [.lit (.bool true)], args := [d] }
  | _ => none }
def fnFlowMarksRow : OpenClaim := { program := "ytboajcaajccmdaa", sum := "8ac7c2bbfd46081fa85635ea78b965ee85eb3ed4f503b715c0bebb02d1c41962", func := "loop.example/drawbar/laws.FnFlowMarks", spec := "fnFlowMarks", apart := false }
def FnFlowMarksSaid : Prop := fnFlowMarksRow.holds Try.pinned (OpenSpec.ofChange fnFlowMarksSpec)

/-- ITS FALSE NEIGHBOUR: 'it returns false'. Refute it at one input. -/
def fnFlowMarksWrong : ChangeSpec := { name := "fnFlowMarks", fn := fun _ => fun
  | [d] => { results := [.lit (.bool false)], args := [d] }
  | _ => none }
def FnFlowMarksWrongFalsely : Prop := fnFlowMarksRow.holds Try.pinned (OpenSpec.ofChange fnFlowMarksWrong)

/-- 'laws.FnJoin': WHATEVER THE INPUT: true; the input reads as it did. -/
def fnJoinSpec : ChangeSpec := { name := "fnJoin", fn := fun _ => fun
  | [d1, d2] => { results := [.lit (.bool true)], args := [d1, d2] }
  | _ => none }
def fnJoinRow : OpenClaim := { program := "ytboajcaajccmdaa", sum := "8ac7c2bbfd46081fa85635ea78b965ee85eb3ed4f503b715c0bebb02d1c41962", func := "loop.example/drawbar/laws.FnJoin", spec := "fnJoin", apart := false }
def FnJoinSaid : Prop := fnJoinRow.holds Try.pinned (OpenSpec.ofChange fnJoinSpec)

/-- ITS FALSE NEIGHBOUR: 'it returns false'. Refute it at one input. -/
def fnJoinWrong : ChangeSpec := { name := "fnJoin", fn := fun _ => fun
  | [d1, d2] => { results := [.lit (.bool false)], args := [d1, d2] }
  | _ => none }
def FnJoinWrongFalsely : Prop := fnJoinRow.holds Try.pinned (OpenSpec.ofChange fnJoinWrong)

/-- 'laws.FnFlowOrder': WHATEVER THE INPUT: true; the input reads as it did. -/
def fnFlowOrderSpec : ChangeSpec := { name := "fnFlowOrder", fn := fun _ => fun
  | [d1, d2] => { results := [.lit (.bool true)], args := [d1, d2] }
  | _ => none }
def fnFlowOrderRow : OpenClaim := { program := "ytboajcaajccmdaa", sum := "8ac7c2bbfd46081fa85635ea78b965ee85eb3ed4f503b715c0bebb02d1c41962", func := "loop.example/drawbar/laws.FnFlowOrder", spec := "fnFlowOrder", apart := false }
def FnFlowOrderSaid : Prop := fnFlowOrderRow.holds Try.pinned (OpenSpec.ofChange fnFlowOrderSpec)

/-- ITS FALSE NEIGHBOUR: 'it returns false'. Refute it at one input. -/
def fnFlowOrderWrong : ChangeSpec := { name := "fnFlowOrder", fn := fun _ => fun
  | [d1, d2] => { results := [.lit (.bool false)], args := [d1, d2] }
  | _ => none }
def FnFlowOrderWrongFalsely : Prop := fnFlowOrderRow.holds Try.pinned (OpenSpec.ofChange fnFlowOrderWrong)

/-- 'laws.FnMeet': WHATEVER THE INPUT: true; the input reads as it did. -/
def fnMeetSpec : ChangeSpec := { name := "fnMeet", fn := fun _ => fun
  | [d1, d2] => { results := [.lit (.bool true)], args := [d1, d2] }
  | _ => none }
def fnMeetRow : OpenClaim := { program := "ytboajcaajccmdaa", sum := "8ac7c2bbfd46081fa85635ea78b965ee85eb3ed4f503b715c0bebb02d1c41962", func := "loop.example/drawbar/laws.FnMeet", spec := "fnMeet", apart := false }
def FnMeetSaid : Prop := fnMeetRow.holds Try.pinned (OpenSpec.ofChange fnMeetSpec)

/-- ITS FALSE NEIGHBOUR: 'it returns false'. Refute it at one input. -/
def fnMeetWrong : ChangeSpec := { name := "fnMeet", fn := fun _ => fun
  | [d1, d2] => { results := [.lit (.bool false)], args := [d1, d2] }
  | _ => none }
def FnMeetWrongFalsely : Prop := fnMeetRow.holds Try.pinned (OpenSpec.ofChange fnMeetWrong)

/-- 'laws.FnFlowJoin': WHATEVER THE INPUT: true; the input reads as it did. -/
def fnFlowJoinSpec : ChangeSpec := { name := "fnFlowJoin", fn := fun _ => fun
  | [d] => { results := [.lit (.bool true)], args := [d] }
  | _ => none }
def fnFlowJoinRow : OpenClaim := { program := "ytboajcaajccmdaa", sum := "8ac7c2bbfd46081fa85635ea78b965ee85eb3ed4f503b715c0bebb02d1c41962", func := "loop.example/drawbar/laws.FnFlowJoin", spec := "fnFlowJoin", apart := false }
def FnFlowJoinSaid : Prop := fnFlowJoinRow.holds Try.pinned (OpenSpec.ofChange fnFlowJoinSpec)

/-- ITS FALSE NEIGHBOUR: 'it returns false'. Refute it at one input. -/
def fnFlowJoinWrong : ChangeSpec := { name := "fnFlowJoin", fn := fun _ => fun
  | [d] => { results := [.lit (.bool false)], args := [d] }
  | _ => none }
def FnFlowJoinWrongFalsely : Prop := fnFlowJoinRow.holds Try.pinned (OpenSpec.ofChange fnFlowJoinWrong)

/- THE SECOND FORM. 'bulk': how many values and letters a reading holds, each counted each time it is reached (what is shared counts as often as it is met; a slice's spare places count too). A statement '..UptoSaid' is the law's where the arguments, and the package variables that the reading takes, are together of bulk at most 1048576: NARROWER than '..Said'. Prove '..Said' where nothing that the law and all that it calls make is longer than what came in: it says more and counts as full. Else prove '..UptoSaid'. A law counts once. -/
mutual
def uptoBulk {H : Type} : DataW H → Nat
  | .lit (.string bytes) => bytes.length + 1
  | .lit _ => 1
  | .nil => 1
  | .ptr d => uptoBulk d + 1
  | .slice elems spare => uptoBulkAll elems + uptoBulkAll spare + 1
  | .agg parts => uptoBulkAll parts + 1
  | .iface _ d => uptoBulk d + 1
  | .map entries => uptoBulkEntries entries + 1
  | .held _ => 1
def uptoBulkAll {H : Type} : List (DataW H) → Nat
  | [] => 0
  | d :: r => uptoBulk d + uptoBulkAll r
def uptoBulkEntries {H : Type} : List (Lit × DataW H) → Nat
  | [] => 0
  | x :: r => uptoBulkEntry x + uptoBulkEntries r
def uptoBulkEntry {H : Type} : Lit × DataW H → Nat
  | (.string bytes, d) => bytes.length + uptoBulk d + 1
  | (_, d) => uptoBulk d + 1
 end
def uptoSmall : (H : Type) → List (DataW H) → Bool := fun _ ds => decide (uptoBulkAll ds ≤ 1048576)
def OpenSpec.upto (s : _root_.Go.ChangeSpec) : _root_.Go.OpenSpec := { _root_.Go.OpenSpec.ofChange s with cond := some uptoSmall }

/-- 'laws.FnExactLabelFlow', WHERE WHAT IT READS IS OF BULK AT MOST 1048576: true; the input reads as it did. -/
def fnExactLabelFlowUptoRow : OpenClaim := { program := "ytboajcaajccmdaa", sum := "8ac7c2bbfd46081fa85635ea78b965ee85eb3ed4f503b715c0bebb02d1c41962", func := "loop.example/drawbar/laws.FnExactLabelFlow", spec := "fnExactLabelFlow", apart := false, narrowed := true }
def FnExactLabelFlowUptoSaid : Prop := fnExactLabelFlowUptoRow.holds Try.pinned (OpenSpec.upto fnExactLabelFlowSpec)

/-- 'laws.FnExactLabelJoin', WHERE WHAT IT READS IS OF BULK AT MOST 1048576: true; the input reads as it did. -/
def fnExactLabelJoinUptoRow : OpenClaim := { program := "ytboajcaajccmdaa", sum := "8ac7c2bbfd46081fa85635ea78b965ee85eb3ed4f503b715c0bebb02d1c41962", func := "loop.example/drawbar/laws.FnExactLabelJoin", spec := "fnExactLabelJoin", apart := false, narrowed := true }
def FnExactLabelJoinUptoSaid : Prop := fnExactLabelJoinUptoRow.holds Try.pinned (OpenSpec.upto fnExactLabelJoinSpec)

/-- 'laws.FnExactLabelMeet', WHERE WHAT IT READS IS OF BULK AT MOST 1048576: true; the input reads as it did. -/
def fnExactLabelMeetUptoRow : OpenClaim := { program := "ytboajcaajccmdaa", sum := "8ac7c2bbfd46081fa85635ea78b965ee85eb3ed4f503b715c0bebb02d1c41962", func := "loop.example/drawbar/laws.FnExactLabelMeet", spec := "fnExactLabelMeet", apart := false, narrowed := true }
def FnExactLabelMeetUptoSaid : Prop := fnExactLabelMeetUptoRow.holds Try.pinned (OpenSpec.upto fnExactLabelMeetSpec)

/-- 'laws.FnExactLabelRead', WHERE WHAT IT READS IS OF BULK AT MOST 1048576: true; the input reads as it did. -/
def fnExactLabelReadUptoRow : OpenClaim := { program := "ytboajcaajccmdaa", sum := "8ac7c2bbfd46081fa85635ea78b965ee85eb3ed4f503b715c0bebb02d1c41962", func := "loop.example/drawbar/laws.FnExactLabelRead", spec := "fnExactLabelRead", recurses := true, apart := false, narrowed := true }
def FnExactLabelReadUptoSaid : Prop := fnExactLabelReadUptoRow.holds Try.pinned (OpenSpec.upto fnExactLabelReadSpec)

/-- 'laws.FnJoinMarks', WHERE WHAT IT READS IS OF BULK AT MOST 1048576: true; the input reads as it did. -/
def fnJoinMarksUptoRow : OpenClaim := { program := "ytboajcaajccmdaa", sum := "8ac7c2bbfd46081fa85635ea78b965ee85eb3ed4f503b715c0bebb02d1c41962", func := "loop.example/drawbar/laws.FnJoinMarks", spec := "fnJoinMarks", apart := false, narrowed := true }
def FnJoinMarksUptoSaid : Prop := fnJoinMarksUptoRow.holds Try.pinned (OpenSpec.upto fnJoinMarksSpec)

/-- 'laws.FnJoinThree', WHERE WHAT IT READS IS OF BULK AT MOST 1048576: true; the input reads as it did. -/
def fnJoinThreeUptoRow : OpenClaim := { program := "ytboajcaajccmdaa", sum := "8ac7c2bbfd46081fa85635ea78b965ee85eb3ed4f503b715c0bebb02d1c41962", func := "loop.example/drawbar/laws.FnJoinThree", spec := "fnJoinThree", apart := false, narrowed := true }
def FnJoinThreeUptoSaid : Prop := fnJoinThreeUptoRow.holds Try.pinned (OpenSpec.upto fnJoinThreeSpec)

/-- 'laws.FnFlowLeast', WHERE WHAT IT READS IS OF BULK AT MOST 1048576: true; the input reads as it did. -/
def fnFlowLeastUptoRow : OpenClaim := { program := "ytboajcaajccmdaa", sum := "8ac7c2bbfd46081fa85635ea78b965ee85eb3ed4f503b715c0bebb02d1c41962", func := "loop.example/drawbar/laws.FnFlowLeast", spec := "fnFlowLeast", apart := false, narrowed := true }
def FnFlowLeastUptoSaid : Prop := fnFlowLeastUptoRow.holds Try.pinned (OpenSpec.upto fnFlowLeastSpec)

/-- 'laws.FnFlowMarks', WHERE WHAT IT READS IS OF BULK AT MOST 1048576: true; the input reads as it did. -/
def fnFlowMarksUptoRow : OpenClaim := { program := "ytboajcaajccmdaa", sum := "8ac7c2bbfd46081fa85635ea78b965ee85eb3ed4f503b715c0bebb02d1c41962", func := "loop.example/drawbar/laws.FnFlowMarks", spec := "fnFlowMarks", apart := false, narrowed := true }
def FnFlowMarksUptoSaid : Prop := fnFlowMarksUptoRow.holds Try.pinned (OpenSpec.upto fnFlowMarksSpec)

/-- 'laws.FnJoin', WHERE WHAT IT READS IS OF BULK AT MOST 1048576: true; the input reads as it did. -/
def fnJoinUptoRow : OpenClaim := { program := "ytboajcaajccmdaa", sum := "8ac7c2bbfd46081fa85635ea78b965ee85eb3ed4f503b715c0bebb02d1c41962", func := "loop.example/drawbar/laws.FnJoin", spec := "fnJoin", apart := false, narrowed := true }
def FnJoinUptoSaid : Prop := fnJoinUptoRow.holds Try.pinned (OpenSpec.upto fnJoinSpec)

/-- 'laws.FnFlowOrder', WHERE WHAT IT READS IS OF BULK AT MOST 1048576: true; the input reads as it did. -/
def fnFlowOrderUptoRow : OpenClaim := { program := "ytboajcaajccmdaa", sum := "8ac7c2bbfd46081fa85635ea78b965ee85eb3ed4f503b715c0bebb02d1c41962", func := "loop.example/drawbar/laws.FnFlowOrder", spec := "fnFlowOrder", apart := false, narrowed := true }
def FnFlowOrderUptoSaid : Prop := fnFlowOrderUptoRow.holds Try.pinned (OpenSpec.upto fnFlowOrderSpec)

/-- 'laws.FnMeet', WHERE WHAT IT READS IS OF BULK AT MOST 1048576: true; the input reads as it did. -/
def fnMeetUptoRow : OpenClaim := { program := "ytboajcaajccmdaa", sum := "8ac7c2bbfd46081fa85635ea78b965ee85eb3ed4f503b715c0bebb02d1c41962", func := "loop.example/drawbar/laws.FnMeet", spec := "fnMeet", apart := false, narrowed := true }
def FnMeetUptoSaid : Prop := fnMeetUptoRow.holds Try.pinned (OpenSpec.upto fnMeetSpec)

/-- 'laws.FnFlowJoin', WHERE WHAT IT READS IS OF BULK AT MOST 1048576: true; the input reads as it did. -/
def fnFlowJoinUptoRow : OpenClaim := { program := "ytboajcaajccmdaa", sum := "8ac7c2bbfd46081fa85635ea78b965ee85eb3ed4f503b715c0bebb02d1c41962", func := "loop.example/drawbar/laws.FnFlowJoin", spec := "fnFlowJoin", apart := false, narrowed := true }
def FnFlowJoinUptoSaid : Prop := fnFlowJoinUptoRow.holds Try.pinned (OpenSpec.upto fnFlowJoinSpec)

end Rows
end Go.Proofs.Ytboajcaajccmdaa
