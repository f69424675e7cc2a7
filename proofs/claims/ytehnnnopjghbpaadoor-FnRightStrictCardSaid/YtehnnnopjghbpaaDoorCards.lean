/-
  DERIVED. GIVEN WITH THE SEED: THE CARDS: each row of YtehnnnopjghbpaaDoorRows.lean that lists a variable, with what it lists TIED to the program's text (the seventh form; the later family's looks); each row that meets fmt, with fmt's text TOLD by the authors' own Lean function (tested against real Go, not proved from fmt's source: count such statements apart). THE CARD IS WHAT COUNTS. Prove the row's statement (the work); the ties are given (YtehnnnopjghbpaaDoorTie.lean); close each card by the builder's one call (the guide's Derived/Test/ToyasCard.lean, 'card_holds'). Laid BY PROGRAM, IN A SANDBOX (cutbox-door.mjs). By AI agents, Wed Nov 11 2026. No macro, syntax, notation, axiom, sorry.
-/
import Derived.Test.YtehnnnopjghbpaaDoorRows
import GoSem.ClaimSeven
namespace Go.Proofs.YtehnnnopjghbpaaDoor
namespace Rows

/-- THE TIED CARD OF 'laws.FnRightBack'. -/
def fnRightBackCard : Claim7 := { stood := { row := fnRightBackRow, standIns := [], harness := (true, "30d14b59b2dd1a56d9250459a58bb4d4579e271dbdc9b7da4ec19b1f18d73acf"), looks := true }, kinds := [], alts := [], laidByText := true, laidKinds := [.sentinel], laidTests := true, laidLooks := .later }
def FnRightBackCardSaid : Prop := Claim7.holds Tryd.pinned (.plain (OpenSpec.ofChange fnRightBackSpec)) fnRightBackCard

/-- THE TIED CARD OF 'laws.FnRightStrict'. -/
def fnRightStrictCard : Claim7 := { stood := { row := fnRightStrictRow, standIns := [], harness := (true, "30d14b59b2dd1a56d9250459a58bb4d4579e271dbdc9b7da4ec19b1f18d73acf"), looks := true }, kinds := [], alts := [], laidByText := true, laidKinds := [.sentinel], laidTests := true, laidLooks := .later }
def FnRightStrictCardSaid : Prop := Claim7.holds Tryd.pinned (.plain (OpenSpec.ofChange fnRightStrictSpec)) fnRightStrictCard

/-- THE SECOND FORM's CARD OF 'laws.FnRightBack'. -/
def fnRightBackUptoCard : Claim7 := { stood := { row := fnRightBackUptoRow, standIns := [], harness := (true, "30d14b59b2dd1a56d9250459a58bb4d4579e271dbdc9b7da4ec19b1f18d73acf"), looks := true }, kinds := [], alts := [], laidByText := true, laidKinds := [.sentinel], laidTests := true, laidLooks := .later }
def FnRightBackUptoCardSaid : Prop := Claim7.holds Tryd.pinned (.plain (OpenSpec.upto fnRightBackSpec)) fnRightBackUptoCard

/-- THE SECOND FORM's CARD OF 'laws.FnRightStrict'. -/
def fnRightStrictUptoCard : Claim7 := { stood := { row := fnRightStrictUptoRow, standIns := [], harness := (true, "30d14b59b2dd1a56d9250459a58bb4d4579e271dbdc9b7da4ec19b1f18d73acf"), looks := true }, kinds := [], alts := [], laidByText := true, laidKinds := [.sentinel], laidTests := true, laidLooks := .later }
def FnRightStrictUptoCardSaid : Prop := Claim7.holds Tryd.pinned (.plain (OpenSpec.upto fnRightStrictSpec)) fnRightStrictUptoCard
end Rows
end Go.Proofs.YtehnnnopjghbpaaDoor
