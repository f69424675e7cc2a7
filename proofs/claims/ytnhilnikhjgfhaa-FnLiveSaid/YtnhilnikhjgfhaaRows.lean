/-
  No cell of these rows narrows 'for every input' (looked for: loops, veiled, ifaces, maps, wideKeys, modest, calm, conditions, laid).
  DERIVED. THE GIVEN ROWS OF THIS SEAT. 10 by the template 'for every input the law returns true; each argument reads behind the call as it read before'; 0 by the template 'total and deterministic' (their statements: YtnhilnikhjgfhaaTotals.lean).
  GIVEN WITH THE SEED: the statements are not yours to turn. If you find one false, say at which input.
  Laid BY PROGRAM, IN A SANDBOX (cutbox-rows.mjs): the forced cells as the released guide's own fill.sh prints them over the translation fe3475768e6c3b4a… (all of the seat's roots in one cut). By AI agents, Wed Nov 11 2026. No macro, syntax, notation, axiom, sorry.
-/
import Derived.Test.YtnhilnikhjgfhaaChecked
import GoSem.Claim
import GoSem.ClaimJoined
import GoSem.ClaimMapViews
import Derived.JoinedTies
import Derived.KernelRfl
namespace Go.Proofs.Ytnhilnikhjgfhaa
/- THE CELL 'sum', in the pinned program and in every row, IS THE sha256 OF THE DUMP (.gsa) THAT YtnhilnikhjgfhaaProg.lean LOADS. Nothing in Lean hashes anything: it is a label: what it is worth is what the hold of that sum in a sandbox is worth. -/
noncomputable def Try.pinned : Pinned := { name := "ytnhilnikhjgfhaa", sum := "fe3475768e6c3b4a235e283cd519a3980dbdb0187f88e3ae0aa32d8c5489c25d", checked := Try.checked }
namespace Rows
def none {H : Type} : Left H := { results := [], args := [] }

/-- 'laws.FnThingForm': WHATEVER THE INPUT: true; the input reads as it did. -/
def fnThingFormSpec : ChangeSpec := { name := "fnThingForm", fn := fun _ => fun
  | [d] => { results := [.lit (.bool true)], args := [d] }
  | _ => none }
def fnThingFormRow : OpenClaim := { program := "ytnhilnikhjgfhaa", sum := "fe3475768e6c3b4a235e283cd519a3980dbdb0187f88e3ae0aa32d8c5489c25d", func := "loop.example/drawbar/laws.FnThingForm", spec := "fnThingForm", apart := false }
def FnThingFormSaid : Prop := fnThingFormRow.holds Try.pinned (OpenSpec.ofChange fnThingFormSpec)

/-- ITS FALSE NEIGHBOUR: 'it returns false'. Refute it at one input. -/
def fnThingFormWrong : ChangeSpec := { name := "fnThingForm", fn := fun _ => fun
  | [d] => { results := [.lit (.bool false)], args := [d] }
  | _ => none }
def FnThingFormWrongFalsely : Prop := fnThingFormRow.holds Try.pinned (OpenSpec.ofChange fnThingFormWrong)

/-- 'laws.FnExactThingOk': WHATEVER THE INPUT: true; the input reads as it did. -/
def fnExactThingOkSpec : ChangeSpec := { name := "fnExactThingOk", fn := fun _ => fun
  | [d] => { results := [.lit (.bool true)], args := [d] }
  | _ => none }
def fnExactThingOkRow : OpenClaim := { program := "ytnhilnikhjgfhaa", sum := "fe3475768e6c3b4a235e283cd519a3980dbdb0187f88e3ae0aa32d8c5489c25d", func := "loop.example/drawbar/laws.FnExactThingOk", spec := "fnExactThingOk", apart := false }
def FnExactThingOkSaid : Prop := fnExactThingOkRow.holds Try.pinned (OpenSpec.ofChange fnExactThingOkSpec)

/-- ITS FALSE NEIGHBOUR: 'it returns false'. Refute it at one input. -/
def fnExactThingOkWrong : ChangeSpec := { name := "fnExactThingOk", fn := fun _ => fun
  | [d] => { results := [.lit (.bool false)], args := [d] }
  | _ => none }
def FnExactThingOkWrongFalsely : Prop := fnExactThingOkRow.holds Try.pinned (OpenSpec.ofChange fnExactThingOkWrong)

/-- 'laws.FnTableForm': WHATEVER THE INPUT: true; the input reads as it did. -/
def fnTableFormSpec : ChangeSpec := { name := "fnTableForm", fn := fun _ => fun
  | [d] => { results := [.lit (.bool true)], args := [d] }
  | _ => none }
def fnTableFormRow : OpenClaim := { program := "ytnhilnikhjgfhaa", sum := "fe3475768e6c3b4a235e283cd519a3980dbdb0187f88e3ae0aa32d8c5489c25d", func := "loop.example/drawbar/laws.FnTableForm", spec := "fnTableForm", unfollowed := true, recurses := true, apart := false }
def FnTableFormSaid : Prop := fnTableFormRow.holds Try.pinned (OpenSpec.ofChange fnTableFormSpec)

/-- ITS FALSE NEIGHBOUR: 'it returns false'. Refute it at one input. -/
def fnTableFormWrong : ChangeSpec := { name := "fnTableForm", fn := fun _ => fun
  | [d] => { results := [.lit (.bool false)], args := [d] }
  | _ => none }
def FnTableFormWrongFalsely : Prop := fnTableFormRow.holds Try.pinned (OpenSpec.ofChange fnTableFormWrong)

/-- 'laws.FnLive': WHATEVER THE INPUT: true; the input reads as it did. -/
def fnLiveSpec : ChangeSpec := { name := "fnLive", fn := fun _ => fun
  | [d] => { results := [.lit (.bool true)], args := [d] }
  | _ => none }
def fnLiveRow : OpenClaim := { program := "ytnhilnikhjgfhaa", sum := "fe3475768e6c3b4a235e283cd519a3980dbdb0187f88e3ae0aa32d8c5489c25d", func := "loop.example/drawbar/laws.FnLive", spec := "fnLive", unfollowed := true, recurses := true, apart := false }
def FnLiveSaid : Prop := fnLiveRow.holds Try.pinned (OpenSpec.ofChange fnLiveSpec)

/-- ITS FALSE NEIGHBOUR: 'it returns false'. Refute it at one input. -/
def fnLiveWrong : ChangeSpec := { name := "fnLive", fn := fun _ => fun
  | [d] => { results := [.lit (.bool false)], args := [d] }
  | _ => none }
def FnLiveWrongFalsely : Prop := fnLiveRow.holds Try.pinned (OpenSpec.ofChange fnLiveWrong)

/-- 'laws.FnSees': WHATEVER THE INPUT: true; the input reads as it did. -/
def fnSeesSpec : ChangeSpec := { name := "fnSees", fn := fun _ => fun
  | [d] => { results := [.lit (.bool true)], args := [d] }
  | _ => none }
def fnSeesRow : OpenClaim := { program := "ytnhilnikhjgfhaa", sum := "fe3475768e6c3b4a235e283cd519a3980dbdb0187f88e3ae0aa32d8c5489c25d", func := "loop.example/drawbar/laws.FnSees", spec := "fnSees", unfollowed := true, recurses := true, apart := false }
def FnSeesSaid : Prop := fnSeesRow.holds Try.pinned (OpenSpec.ofChange fnSeesSpec)

/-- ITS FALSE NEIGHBOUR: 'it returns false'. Refute it at one input. -/
def fnSeesWrong : ChangeSpec := { name := "fnSees", fn := fun _ => fun
  | [d] => { results := [.lit (.bool false)], args := [d] }
  | _ => none }
def FnSeesWrongFalsely : Prop := fnSeesRow.holds Try.pinned (OpenSpec.ofChange fnSeesWrong)

/-- 'laws.FnExactTableOk': WHATEVER THE INPUT: true; the input reads as it did. -/
def fnExactTableOkSpec : ChangeSpec := { name := "fnExactTableOk", fn := fun _ => fun
  | [d] => { results := [.lit (.bool true)], args := [d] }
  | _ => none }
def fnExactTableOkRow : OpenClaim := { program := "ytnhilnikhjgfhaa", sum := "fe3475768e6c3b4a235e283cd519a3980dbdb0187f88e3ae0aa32d8c5489c25d", func := "loop.example/drawbar/laws.FnExactTableOk", spec := "fnExactTableOk", unfollowed := true, recurses := true, apart := false }
def FnExactTableOkSaid : Prop := fnExactTableOkRow.holds Try.pinned (OpenSpec.ofChange fnExactTableOkSpec)

/-- ITS FALSE NEIGHBOUR: 'it returns false'. Refute it at one input. -/
def fnExactTableOkWrong : ChangeSpec := { name := "fnExactTableOk", fn := fun _ => fun
  | [d] => { results := [.lit (.bool false)], args := [d] }
  | _ => none }
def FnExactTableOkWrongFalsely : Prop := fnExactTableOkRow.holds Try.pinned (OpenSpec.ofChange fnExactTableOkWrong)

/-- 'laws.FnTouches': WHATEVER THE INPUT: true; the input reads as it did. -/
def fnTouchesSpec : ChangeSpec := { name := "fnTouches", fn := fun _ => fun
  | [d] => { results := [.lit (.bool true)], args := [d] }
  | _ => none }
def fnTouchesRow : OpenClaim := { program := "ytnhilnikhjgfhaa", sum := "fe3475768e6c3b4a235e283cd519a3980dbdb0187f88e3ae0aa32d8c5489c25d", func := "loop.example/drawbar/laws.FnTouches", spec := "fnTouches", unfollowed := true, recurses := true, apart := false }
def FnTouchesSaid : Prop := fnTouchesRow.holds Try.pinned (OpenSpec.ofChange fnTouchesSpec)

/-- ITS FALSE NEIGHBOUR: 'it returns false'. Refute it at one input. -/
def fnTouchesWrong : ChangeSpec := { name := "fnTouches", fn := fun _ => fun
  | [d] => { results := [.lit (.bool false)], args := [d] }
  | _ => none }
def FnTouchesWrongFalsely : Prop := fnTouchesRow.holds Try.pinned (OpenSpec.ofChange fnTouchesWrong)

/-- 'laws.FnExactTableLive': WHATEVER THE INPUT: true; the input reads as it did. -/
def fnExactTableLiveSpec : ChangeSpec := { name := "fnExactTableLive", fn := fun _ => fun
  | [d1, d2] => { results := [.lit (.bool true)], args := [d1, d2] }
  | _ => none }
def fnExactTableLiveRow : OpenClaim := { program := "ytnhilnikhjgfhaa", sum := "fe3475768e6c3b4a235e283cd519a3980dbdb0187f88e3ae0aa32d8c5489c25d", func := "loop.example/drawbar/laws.FnExactTableLive", spec := "fnExactTableLive", unfollowed := true, recurses := true, apart := false }
def FnExactTableLiveSaid : Prop := fnExactTableLiveRow.holds Try.pinned (OpenSpec.ofChange fnExactTableLiveSpec)

/-- ITS FALSE NEIGHBOUR: 'it returns false'. Refute it at one input. -/
def fnExactTableLiveWrong : ChangeSpec := { name := "fnExactTableLive", fn := fun _ => fun
  | [d1, d2] => { results := [.lit (.bool false)], args := [d1, d2] }
  | _ => none }
def FnExactTableLiveWrongFalsely : Prop := fnExactTableLiveRow.holds Try.pinned (OpenSpec.ofChange fnExactTableLiveWrong)

/-- 'laws.FnExactCheckSees': WHATEVER THE INPUT: true; the input reads as it did. -/
def fnExactCheckSeesSpec : ChangeSpec := { name := "fnExactCheckSees", fn := fun _ => fun
  | [d1, d2, d3] => { results := [.lit (.bool true)], args := [d1, d2, d3] }
  | _ => none }
def fnExactCheckSeesRow : OpenClaim := { program := "ytnhilnikhjgfhaa", sum := "fe3475768e6c3b4a235e283cd519a3980dbdb0187f88e3ae0aa32d8c5489c25d", func := "loop.example/drawbar/laws.FnExactCheckSees", spec := "fnExactCheckSees", unfollowed := true, recurses := true, apart := false }
def FnExactCheckSeesSaid : Prop := fnExactCheckSeesRow.holds Try.pinned (OpenSpec.ofChange fnExactCheckSeesSpec)

/-- ITS FALSE NEIGHBOUR: 'it returns false'. Refute it at one input. -/
def fnExactCheckSeesWrong : ChangeSpec := { name := "fnExactCheckSees", fn := fun _ => fun
  | [d1, d2, d3] => { results := [.lit (.bool false)], args := [d1, d2, d3] }
  | _ => none }
def FnExactCheckSeesWrongFalsely : Prop := fnExactCheckSeesRow.holds Try.pinned (OpenSpec.ofChange fnExactCheckSeesWrong)

/-- 'laws.FnExactCheckTouches': WHATEVER THE INPUT: true; the input reads as it did. -/
def fnExactCheckTouchesSpec : ChangeSpec := { name := "fnExactCheckTouches", fn := fun _ => fun
  | [d1, d2, d3] => { results := [.lit (.bool true)], args := [d1, d2, d3] }
  | _ => none }
def fnExactCheckTouchesRow : OpenClaim := { program := "ytnhilnikhjgfhaa", sum := "fe3475768e6c3b4a235e283cd519a3980dbdb0187f88e3ae0aa32d8c5489c25d", func := "loop.example/drawbar/laws.FnExactCheckTouches", spec := "fnExactCheckTouches", unfollowed := true, recurses := true, apart := false }
def FnExactCheckTouchesSaid : Prop := fnExactCheckTouchesRow.holds Try.pinned (OpenSpec.ofChange fnExactCheckTouchesSpec)

/-- ITS FALSE NEIGHBOUR: 'it returns false'. Refute it at one input. -/
def fnExactCheckTouchesWrong : ChangeSpec := { name := "fnExactCheckTouches", fn := fun _ => fun
  | [d1, d2, d3] => { results := [.lit (.bool false)], args := [d1, d2, d3] }
  | _ => none }
def FnExactCheckTouchesWrongFalsely : Prop := fnExactCheckTouchesRow.holds Try.pinned (OpenSpec.ofChange fnExactCheckTouchesWrong)

/- THE SECOND FORM. 'bulk': how many values and letters a reading holds, each counted each time it is reached (what is shared counts as often as it is met; a slice's spare places count too). A statement '..UptoSaid' is the law's where the arguments, and the package variables that the reading takes, are together of bulk at most 1048576: NARROWER than '..Said'. Prove '..Said' where nothing that the law and all that it calls make is longer than what came in: it says more and counts as full. Else prove '..UptoSaid'. A law counts once. -/
mutual
def uptoBulk {H : Type} : DataW H → Nat
  | .lit (.string bytes) => bytes.length + 1
  | .lit _ => 1
  | .nil => 1
  | .ptr d => uptoBulk d + 1
  | .slice elems spare => uptoBulkAll elems + uptoBulkAll spare + 1
  | .agg parts => uptoBulkAll parts + 1
  | .iface _ d => uptoBulk d + 1
  | .map entries => uptoBulkEntries entries + 1
  | .held _ => 1
def uptoBulkAll {H : Type} : List (DataW H) → Nat
  | [] => 0
  | d :: r => uptoBulk d + uptoBulkAll r
def uptoBulkEntries {H : Type} : List (Lit × DataW H) → Nat
  | [] => 0
  | x :: r => uptoBulkEntry x + uptoBulkEntries r
def uptoBulkEntry {H : Type} : Lit × DataW H → Nat
  | (.string bytes, d) => bytes.length + uptoBulk d + 1
  | (_, d) => uptoBulk d + 1
 end
def uptoSmall : (H : Type) → List (DataW H) → Bool := fun _ ds => decide (uptoBulkAll ds ≤ 1048576)
def OpenSpec.upto (s : _root_.Go.ChangeSpec) : _root_.Go.OpenSpec := { _root_.Go.OpenSpec.ofChange s with cond := some uptoSmall }

/-- 'laws.FnThingForm', WHERE WHAT IT READS IS OF BULK AT MOST 1048576: true; the input reads as it did. -/
def fnThingFormUptoRow : OpenClaim := { program := "ytnhilnikhjgfhaa", sum := "fe3475768e6c3b4a235e283cd519a3980dbdb0187f88e3ae0aa32d8c5489c25d", func := "loop.example/drawbar/laws.FnThingForm", spec := "fnThingForm", apart := false, narrowed := true }
def FnThingFormUptoSaid : Prop := fnThingFormUptoRow.holds Try.pinned (OpenSpec.upto fnThingFormSpec)

/-- 'laws.FnExactThingOk', WHERE WHAT IT READS IS OF BULK AT MOST 1048576: true; the input reads as it did. -/
def fnExactThingOkUptoRow : OpenClaim := { program := "ytnhilnikhjgfhaa", sum := "fe3475768e6c3b4a235e283cd519a3980dbdb0187f88e3ae0aa32d8c5489c25d", func := "loop.example/drawbar/laws.FnExactThingOk", spec := "fnExactThingOk", apart := false, narrowed := true }
def FnExactThingOkUptoSaid : Prop := fnExactThingOkUptoRow.holds Try.pinned (OpenSpec.upto fnExactThingOkSpec)

/-- 'laws.FnTableForm', WHERE WHAT IT READS IS OF BULK AT MOST 1048576: true; the input reads as it did. -/
def fnTableFormUptoRow : OpenClaim := { program := "ytnhilnikhjgfhaa", sum := "fe3475768e6c3b4a235e283cd519a3980dbdb0187f88e3ae0aa32d8c5489c25d", func := "loop.example/drawbar/laws.FnTableForm", spec := "fnTableForm", unfollowed := true, recurses := true, apart := false, narrowed := true }
def FnTableFormUptoSaid : Prop := fnTableFormUptoRow.holds Try.pinned (OpenSpec.upto fnTableFormSpec)

/-- 'laws.FnLive', WHERE WHAT IT READS IS OF BULK AT MOST 1048576: true; the input reads as it did. -/
def fnLiveUptoRow : OpenClaim := { program := "ytnhilnikhjgfhaa", sum := "fe3475768e6c3b4a235e283cd519a3980dbdb0187f88e3ae0aa32d8c5489c25d", func := "loop.example/drawbar/laws.FnLive", spec := "fnLive", unfollowed := true, recurses := true, apart := false, narrowed := true }
def FnLiveUptoSaid : Prop := fnLiveUptoRow.holds Try.pinned (OpenSpec.upto fnLiveSpec)

/-- 'laws.FnSees', WHERE WHAT IT READS IS OF BULK AT MOST 1048576: true; the input reads as it did. -/
def fnSeesUptoRow : OpenClaim := { program := "ytnhilnikhjgfhaa", sum := "fe3475768e6c3b4a235e283cd519a3980dbdb0187f88e3ae0aa32d8c5489c25d", func := "loop.example/drawbar/laws.FnSees", spec := "fnSees", unfollowed := true, recurses := true, apart := false, narrowed := true }
def FnSeesUptoSaid : Prop := fnSeesUptoRow.holds Try.pinned (OpenSpec.upto fnSeesSpec)

/-- 'laws.FnExactTableOk', WHERE WHAT IT READS IS OF BULK AT MOST 1048576: true; the input reads as it did. -/
def fnExactTableOkUptoRow : OpenClaim := { program := "ytnhilnikhjgfhaa", sum := "fe3475768e6c3b4a235e283cd519a3980dbdb0187f88e3ae0aa32d8c5489c25d", func := "loop.example/drawbar/laws.FnExactTableOk", spec := "fnExactTableOk", unfollowed := true, recurses := true, apart := false, narrowed := true }
def FnExactTableOkUptoSaid : Prop := fnExactTableOkUptoRow.holds Try.pinned (OpenSpec.upto fnExactTableOkSpec)

/-- 'laws.FnTouches', WHERE WHAT IT READS IS OF BULK AT MOST 1048576: true; the input reads as it did. -/
def fnTouchesUptoRow : OpenClaim := { program := "ytnhilnikhjgfhaa", sum := "fe3475768e6c3b4a235e283cd519a3980dbdb0187f88e3ae0aa32d8c5489c25d", func := "loop.example/drawbar/laws.FnTouches", spec := "fnTouches", unfollowed := true, recurses := true, apart := false, narrowed := true }
def FnTouchesUptoSaid : Prop := fnTouchesUptoRow.holds Try.pinned (OpenSpec.upto fnTouchesSpec)

/-- 'laws.FnExactTableLive', WHERE WHAT IT READS IS OF BULK AT MOST 1048576: true; the input reads as it did. -/
def fnExactTableLiveUptoRow : OpenClaim := { program := "ytnhilnikhjgfhaa", sum := "fe3475768e6c3b4a235e283cd519a3980dbdb0187f88e3ae0aa32d8c5489c25d", func := "loop.example/drawbar/laws.FnExactTableLive", spec := "fnExactTableLive", unfollowed := true, recurses := true, apart := false, narrowed := true }
def FnExactTableLiveUptoSaid : Prop := fnExactTableLiveUptoRow.holds Try.pinned (OpenSpec.upto fnExactTableLiveSpec)

/-- 'laws.FnExactCheckSees', WHERE WHAT IT READS IS OF BULK AT MOST 1048576: true; the input reads as it did. -/
def fnExactCheckSeesUptoRow : OpenClaim := { program := "ytnhilnikhjgfhaa", sum := "fe3475768e6c3b4a235e283cd519a3980dbdb0187f88e3ae0aa32d8c5489c25d", func := "loop.example/drawbar/laws.FnExactCheckSees", spec := "fnExactCheckSees", unfollowed := true, recurses := true, apart := false, narrowed := true }
def FnExactCheckSeesUptoSaid : Prop := fnExactCheckSeesUptoRow.holds Try.pinned (OpenSpec.upto fnExactCheckSeesSpec)

/-- 'laws.FnExactCheckTouches', WHERE WHAT IT READS IS OF BULK AT MOST 1048576: true; the input reads as it did. -/
def fnExactCheckTouchesUptoRow : OpenClaim := { program := "ytnhilnikhjgfhaa", sum := "fe3475768e6c3b4a235e283cd519a3980dbdb0187f88e3ae0aa32d8c5489c25d", func := "loop.example/drawbar/laws.FnExactCheckTouches", spec := "fnExactCheckTouches", unfollowed := true, recurses := true, apart := false, narrowed := true }
def FnExactCheckTouchesUptoSaid : Prop := fnExactCheckTouchesUptoRow.holds Try.pinned (OpenSpec.upto fnExactCheckTouchesSpec)

end Rows
end Go.Proofs.Ytnhilnikhjgfhaa
