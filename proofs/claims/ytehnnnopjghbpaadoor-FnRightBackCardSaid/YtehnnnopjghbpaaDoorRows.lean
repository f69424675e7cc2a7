/-
  NARROWER THAN 'FOR EVERY INPUT', by the rows' own cells (each row's printed sentence says how): FnRightBack: ifaces, laid · FnRightStrict: ifaces, laid.
  DERIVED. THE GIVEN ROWS OF THIS SEAT. 2 by the template 'for every input the law returns true; each argument reads behind the call as it read before'; 0 by the template 'total and deterministic' (their statements: YtehnnnopjghbpaaDoorTotals.lean).
  GIVEN WITH THE SEED: the statements are not yours to turn. If you find one false, say at which input.
  Laid BY PROGRAM, IN A SANDBOX (cutbox-rows.mjs): the forced cells as the released guide's own fill.sh prints them over the translation 905d6d1aa6147ed2… (all of the seat's roots in one cut). By AI agents, Wed Nov 11 2026. No macro, syntax, notation, axiom, sorry.
-/
import Derived.Test.YtehnnnopjghbpaaDoorChecked
import GoSem.Claim
import GoSem.ClaimJoined
import GoSem.ClaimMapViews
import Derived.JoinedTies
import Derived.KernelRfl
namespace Go.Proofs.YtehnnnopjghbpaaDoor
/- THE CELL 'sum', in the pinned program and in every row, IS THE sha256 OF THE DUMP (.gsa) THAT YtehnnnopjghbpaaDoorProg.lean LOADS. Nothing in Lean hashes anything: it is a label: what it is worth is what the hold of that sum in a sandbox is worth. -/
noncomputable def Tryd.pinned : Pinned := { name := "ytehnnnopjghbpaadoor", sum := "905d6d1aa6147ed2483fbe6a79139691f8921ae5b65eef5e6162800dc05b2aea", checked := Tryd.checked }
namespace Rows
def none {H : Type} : Left H := { results := [], args := [] }

/- WHAT THE LISTED PACKAGE-LEVEL VARIABLES READ AS WHEN THE CALL BEGINS. Each datum BY PROGRAM (the guide's laid-datum.mjs) off the statement by which the dump's own 'gosem.cut.vars' lays the variable. In a bare row this is a premise. The card (YtehnnnopjghbpaaDoorCards.lean) ties it to the program's text. -/
def laid_loop_example_drawbar_impl_errRightText {H : Type} : DataW H := .iface "*errors.errorString" (.ptr (.agg [.lit (.string [110, 111, 116, 32, 116, 104, 101, 32, 116, 101, 120, 116, 32, 111, 102, 32, 97, 32, 99, 97, 112, 97, 98, 105, 108, 105, 116, 121])]))

/-- 'laws.FnRightBack': WHATEVER THE INPUT: true; the input reads as it did. -/
def fnRightBackSpec : ChangeSpec := { name := "fnRightBack", vars := ["loop.example/drawbar/impl.errRightText"], fn := fun _ => fun
  | [d, g1] => { results := [.lit (.bool true)], args := [d], vars := [g1] }
  | _ => none }
def fnRightBackRow : OpenClaim := { program := "ytehnnnopjghbpaadoor", sum := "905d6d1aa6147ed2483fbe6a79139691f8921ae5b65eef5e6162800dc05b2aea", func := "loop.example/drawbar/laws.FnRightBack", spec := "fnRightBack", inPlace := ["internal/reflectlite.TypeOf"], unfollowed := true, recurses := true, named := ["loop.example/drawbar/impl.errRightText"], ifaces := true, apart := false, laid := [("loop.example/drawbar/impl.errRightText", laid_loop_example_drawbar_impl_errRightText)] }
def FnRightBackSaid : Prop := fnRightBackRow.holds Tryd.pinned (OpenSpec.ofChange fnRightBackSpec)

/-- ITS FALSE NEIGHBOUR: 'it returns false'. Refute it at one input. -/
def fnRightBackWrong : ChangeSpec := { name := "fnRightBack", vars := ["loop.example/drawbar/impl.errRightText"], fn := fun _ => fun
  | [d, g1] => { results := [.lit (.bool false)], args := [d], vars := [g1] }
  | _ => none }
def FnRightBackWrongFalsely : Prop := fnRightBackRow.holds Tryd.pinned (OpenSpec.ofChange fnRightBackWrong)

/-- 'laws.FnRightStrict': WHATEVER THE INPUT: true; the input reads as it did. -/
def fnRightStrictSpec : ChangeSpec := { name := "fnRightStrict", vars := ["loop.example/drawbar/impl.errRightText"], fn := fun _ => fun
  | [d, g1] => { results := [.lit (.bool true)], args := [d], vars := [g1] }
  | _ => none }
def fnRightStrictRow : OpenClaim := { program := "ytehnnnopjghbpaadoor", sum := "905d6d1aa6147ed2483fbe6a79139691f8921ae5b65eef5e6162800dc05b2aea", func := "loop.example/drawbar/laws.FnRightStrict", spec := "fnRightStrict", inPlace := ["internal/reflectlite.TypeOf"], unfollowed := true, recurses := true, named := ["loop.example/drawbar/impl.errRightText"], ifaces := true, apart := false, laid := [("loop.example/drawbar/impl.errRightText", laid_loop_example_drawbar_impl_errRightText)] }
def FnRightStrictSaid : Prop := fnRightStrictRow.holds Tryd.pinned (OpenSpec.ofChange fnRightStrictSpec)

/-- ITS FALSE NEIGHBOUR: 'it returns false'. Refute it at one input. -/
def fnRightStrictWrong : ChangeSpec := { name := "fnRightStrict", vars := ["loop.example/drawbar/impl.errRightText"], fn := fun _ => fun
  | [d, g1] => { results := [.lit (.bool false)], args := [d], vars := [g1] }
  | _ => none }
def FnRightStrictWrongFalsely : Prop := fnRightStrictRow.holds Tryd.pinned (OpenSpec.ofChange fnRightStrictWrong)

/- THE SECOND FORM. 'bulk': how many values and letters a reading holds, each counted each time it is reached (what is shared counts as often as it is met; a slice's spare places count too). A statement '..UptoSaid' is the law's where the arguments, and the package variables that the reading takes, are together of bulk at most 1048576: NARROWER than '..Said'. Prove '..Said' where nothing that the law and all that it calls make is longer than what came in: it says more and counts as full. Else prove '..UptoSaid'. A law counts once. -/
mutual
def uptoBulk {H : Type} : DataW H → Nat
  | .lit (.string bytes) => bytes.length + 1
  | .lit _ => 1
  | .nil => 1
  | .ptr d => uptoBulk d + 1
  | .slice elems spare => uptoBulkAll elems + uptoBulkAll spare + 1
  | .agg parts => uptoBulkAll parts + 1
  | .iface _ d => uptoBulk d + 1
  | .map entries => uptoBulkEntries entries + 1
  | .held _ => 1
def uptoBulkAll {H : Type} : List (DataW H) → Nat
  | [] => 0
  | d :: r => uptoBulk d + uptoBulkAll r
def uptoBulkEntries {H : Type} : List (Lit × DataW H) → Nat
  | [] => 0
  | x :: r => uptoBulkEntry x + uptoBulkEntries r
def uptoBulkEntry {H : Type} : Lit × DataW H → Nat
  | (.string bytes, d) => bytes.length + uptoBulk d + 1
  | (_, d) => uptoBulk d + 1
 end
def uptoSmall : (H : Type) → List (DataW H) → Bool := fun _ ds => decide (uptoBulkAll ds ≤ 1048576)
def OpenSpec.upto (s : _root_.Go.ChangeSpec) : _root_.Go.OpenSpec := { _root_.Go.OpenSpec.ofChange s with cond := some uptoSmall }

/-- 'laws.FnRightBack', WHERE WHAT IT READS IS OF BULK AT MOST 1048576: true; the input reads as it did. -/
def fnRightBackUptoRow : OpenClaim := { program := "ytehnnnopjghbpaadoor", sum := "905d6d1aa6147ed2483fbe6a79139691f8921ae5b65eef5e6162800dc05b2aea", func := "loop.example/drawbar/laws.FnRightBack", spec := "fnRightBack", inPlace := ["internal/reflectlite.TypeOf"], unfollowed := true, recurses := true, named := ["loop.example/drawbar/impl.errRightText"], ifaces := true, apart := false, laid := [("loop.example/drawbar/impl.errRightText", laid_loop_example_drawbar_impl_errRightText)], narrowed := true }
def FnRightBackUptoSaid : Prop := fnRightBackUptoRow.holds Tryd.pinned (OpenSpec.upto fnRightBackSpec)

/-- 'laws.FnRightStrict', WHERE WHAT IT READS IS OF BULK AT MOST 1048576: true; the input reads as it did. -/
def fnRightStrictUptoRow : OpenClaim := { program := "ytehnnnopjghbpaadoor", sum := "905d6d1aa6147ed2483fbe6a79139691f8921ae5b65eef5e6162800dc05b2aea", func := "loop.example/drawbar/laws.FnRightStrict", spec := "fnRightStrict", inPlace := ["internal/reflectlite.TypeOf"], unfollowed := true, recurses := true, named := ["loop.example/drawbar/impl.errRightText"], ifaces := true, apart := false, laid := [("loop.example/drawbar/impl.errRightText", laid_loop_example_drawbar_impl_errRightText)], narrowed := true }
def FnRightStrictUptoSaid : Prop := fnRightStrictUptoRow.holds Tryd.pinned (OpenSpec.upto fnRightStrictSpec)

end Rows
end Go.Proofs.YtehnnnopjghbpaaDoor
