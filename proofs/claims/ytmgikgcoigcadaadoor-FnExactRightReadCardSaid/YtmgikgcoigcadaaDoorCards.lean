/-
  DERIVED. GIVEN WITH THE SEED: THE CARDS: each row of YtmgikgcoigcadaaDoorRows.lean that lists a variable, with what it lists TIED to the program's text (the seventh form; the later family's looks); each row that meets fmt, with fmt's text TOLD by the authors' own Lean function (tested against real Go, not proved from fmt's source: count such statements apart). THE CARD IS WHAT COUNTS. Prove the row's statement (the work); the ties are given (YtmgikgcoigcadaaDoorTie.lean); close each card by the builder's one call (the guide's Derived/Test/ToyasCard.lean, 'card_holds'). Laid BY PROGRAM, IN A SANDBOX (cutbox-door.mjs). By AI agents, Wed Nov 11 2026. No macro, syntax, notation, axiom, sorry.
-/
import Derived.Test.YtmgikgcoigcadaaDoorRows
import GoSem.ClaimSeven
namespace Go.Proofs.YtmgikgcoigcadaaDoor
namespace Rows

/-- THE TIED CARD OF 'laws.FnExactRightRead'. -/
def fnExactRightReadCard : Claim7 := { stood := { row := fnExactRightReadRow, standIns := [], harness := (true, "cbda0235a31b336eb904f1734c2fa8198d5c814a86c4d0db68b762143463836b"), looks := true }, kinds := [], alts := [], laidByText := true, laidKinds := [.sentinel], laidTests := true, laidLooks := .later }
def FnExactRightReadCardSaid : Prop := Claim7.holds Tryd.pinned (.plain (OpenSpec.ofChange fnExactRightReadSpec)) fnExactRightReadCard

/-- THE TIED CARD OF 'laws.FnLabelForm'. -/
def fnLabelFormCard : Claim7 := { stood := { row := fnLabelFormRow, standIns := [], harness := (true, "cbda0235a31b336eb904f1734c2fa8198d5c814a86c4d0db68b762143463836b"), looks := true }, kinds := [], alts := [], laidByText := true, laidKinds := [.data, .data, .data], laidTests := true, laidLooks := .later }
def FnLabelFormCardSaid : Prop := Claim7.holds Tryd.pinned (.plain (OpenSpec.ofChange fnLabelFormSpec)) fnLabelFormCard

/-- THE TIED CARD OF 'laws.FnExactLabelText'. -/
def fnExactLabelTextCard : Claim7 := { stood := { row := fnExactLabelTextRow, standIns := [], harness := (true, "cbda0235a31b336eb904f1734c2fa8198d5c814a86c4d0db68b762143463836b"), looks := true }, kinds := [], alts := [], laidByText := true, laidKinds := [.data, .data, .data], laidTests := true, laidLooks := .later }
def FnExactLabelTextCardSaid : Prop := Claim7.holds Tryd.pinned (.plain (OpenSpec.ofChange fnExactLabelTextSpec)) fnExactLabelTextCard

/-- THE TIED CARD OF 'laws.FnLabelBack'. -/
def fnLabelBackCard : Claim7 := { stood := { row := fnLabelBackRow, standIns := [], harness := (true, "cbda0235a31b336eb904f1734c2fa8198d5c814a86c4d0db68b762143463836b"), looks := true }, kinds := [], alts := [], laidByText := true, laidKinds := [.data, .data, .data], laidTests := true, laidLooks := .later }
def FnLabelBackCardSaid : Prop := Claim7.holds Tryd.pinned (.plain (OpenSpec.ofChange fnLabelBackSpec)) fnLabelBackCard

/-- THE TIED CARD OF 'laws.FnLabelStrict'. -/
def fnLabelStrictCard : Claim7 := { stood := { row := fnLabelStrictRow, standIns := [], harness := (true, "cbda0235a31b336eb904f1734c2fa8198d5c814a86c4d0db68b762143463836b"), looks := true }, kinds := [], alts := [], laidByText := true, laidKinds := [.data, .data, .data], laidTests := true, laidLooks := .later }
def FnLabelStrictCardSaid : Prop := Claim7.holds Tryd.pinned (.plain (OpenSpec.ofChange fnLabelStrictSpec)) fnLabelStrictCard

/-- THE TIED CARD OF 'laws.FnRightBack'. -/
def fnRightBackCard : Claim7 := { stood := { row := fnRightBackRow, standIns := [], harness := (true, "cbda0235a31b336eb904f1734c2fa8198d5c814a86c4d0db68b762143463836b"), looks := true }, kinds := [], alts := [], laidByText := true, laidKinds := [.sentinel], laidTests := true, laidLooks := .later }
def FnRightBackCardSaid : Prop := Claim7.holds Tryd.pinned (.plain (OpenSpec.ofChange fnRightBackSpec)) fnRightBackCard

/-- THE TIED CARD OF 'laws.FnRightStrict'. -/
def fnRightStrictCard : Claim7 := { stood := { row := fnRightStrictRow, standIns := [], harness := (true, "cbda0235a31b336eb904f1734c2fa8198d5c814a86c4d0db68b762143463836b"), looks := true }, kinds := [], alts := [], laidByText := true, laidKinds := [.sentinel], laidTests := true, laidLooks := .later }
def FnRightStrictCardSaid : Prop := Claim7.holds Tryd.pinned (.plain (OpenSpec.ofChange fnRightStrictSpec)) fnRightStrictCard

/-- THE SECOND FORM's CARD OF 'laws.FnExactRightRead'. -/
def fnExactRightReadUptoCard : Claim7 := { stood := { row := fnExactRightReadUptoRow, standIns := [], harness := (true, "cbda0235a31b336eb904f1734c2fa8198d5c814a86c4d0db68b762143463836b"), looks := true }, kinds := [], alts := [], laidByText := true, laidKinds := [.sentinel], laidTests := true, laidLooks := .later }
def FnExactRightReadUptoCardSaid : Prop := Claim7.holds Tryd.pinned (.plain (OpenSpec.upto fnExactRightReadSpec)) fnExactRightReadUptoCard

/-- THE SECOND FORM's CARD OF 'laws.FnLabelForm'. -/
def fnLabelFormUptoCard : Claim7 := { stood := { row := fnLabelFormUptoRow, standIns := [], harness := (true, "cbda0235a31b336eb904f1734c2fa8198d5c814a86c4d0db68b762143463836b"), looks := true }, kinds := [], alts := [], laidByText := true, laidKinds := [.data, .data, .data], laidTests := true, laidLooks := .later }
def FnLabelFormUptoCardSaid : Prop := Claim7.holds Tryd.pinned (.plain (OpenSpec.upto fnLabelFormSpec)) fnLabelFormUptoCard

/-- THE SECOND FORM's CARD OF 'laws.FnExactLabelText'. -/
def fnExactLabelTextUptoCard : Claim7 := { stood := { row := fnExactLabelTextUptoRow, standIns := [], harness := (true, "cbda0235a31b336eb904f1734c2fa8198d5c814a86c4d0db68b762143463836b"), looks := true }, kinds := [], alts := [], laidByText := true, laidKinds := [.data, .data, .data], laidTests := true, laidLooks := .later }
def FnExactLabelTextUptoCardSaid : Prop := Claim7.holds Tryd.pinned (.plain (OpenSpec.upto fnExactLabelTextSpec)) fnExactLabelTextUptoCard

/-- THE SECOND FORM's CARD OF 'laws.FnLabelBack'. -/
def fnLabelBackUptoCard : Claim7 := { stood := { row := fnLabelBackUptoRow, standIns := [], harness := (true, "cbda0235a31b336eb904f1734c2fa8198d5c814a86c4d0db68b762143463836b"), looks := true }, kinds := [], alts := [], laidByText := true, laidKinds := [.data, .data, .data], laidTests := true, laidLooks := .later }
def FnLabelBackUptoCardSaid : Prop := Claim7.holds Tryd.pinned (.plain (OpenSpec.upto fnLabelBackSpec)) fnLabelBackUptoCard

/-- THE SECOND FORM's CARD OF 'laws.FnLabelStrict'. -/
def fnLabelStrictUptoCard : Claim7 := { stood := { row := fnLabelStrictUptoRow, standIns := [], harness := (true, "cbda0235a31b336eb904f1734c2fa8198d5c814a86c4d0db68b762143463836b"), looks := true }, kinds := [], alts := [], laidByText := true, laidKinds := [.data, .data, .data], laidTests := true, laidLooks := .later }
def FnLabelStrictUptoCardSaid : Prop := Claim7.holds Tryd.pinned (.plain (OpenSpec.upto fnLabelStrictSpec)) fnLabelStrictUptoCard

/-- THE SECOND FORM's CARD OF 'laws.FnRightBack'. -/
def fnRightBackUptoCard : Claim7 := { stood := { row := fnRightBackUptoRow, standIns := [], harness := (true, "cbda0235a31b336eb904f1734c2fa8198d5c814a86c4d0db68b762143463836b"), looks := true }, kinds := [], alts := [], laidByText := true, laidKinds := [.sentinel], laidTests := true, laidLooks := .later }
def FnRightBackUptoCardSaid : Prop := Claim7.holds Tryd.pinned (.plain (OpenSpec.upto fnRightBackSpec)) fnRightBackUptoCard

/-- THE SECOND FORM's CARD OF 'laws.FnRightStrict'. -/
def fnRightStrictUptoCard : Claim7 := { stood := { row := fnRightStrictUptoRow, standIns := [], harness := (true, "cbda0235a31b336eb904f1734c2fa8198d5c814a86c4d0db68b762143463836b"), looks := true }, kinds := [], alts := [], laidByText := true, laidKinds := [.sentinel], laidTests := true, laidLooks := .later }
def FnRightStrictUptoCardSaid : Prop := Claim7.holds Tryd.pinned (.plain (OpenSpec.upto fnRightStrictSpec)) fnRightStrictUptoCard
end Rows
end Go.Proofs.YtmgikgcoigcadaaDoor
