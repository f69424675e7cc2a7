/-
  DERIVED. GIVEN WITH THE SEED: THE CARDS: each row of YtcgmnpppdoadhaaDoorRows.lean that lists a variable, with what it lists TIED to the program's text (the seventh form; the later family's looks); each row that meets fmt, with fmt's text TOLD by the authors' own Lean function (tested against real Go, not proved from fmt's source: count such statements apart). THE CARD IS WHAT COUNTS. Prove the row's statement (the work); the ties are given (YtcgmnpppdoadhaaDoorTie.lean); close each card by the builder's one call (the guide's Derived/Test/ToyasCard.lean, 'card_holds'). Laid BY PROGRAM, IN A SANDBOX (cutbox-door.mjs). By AI agents, Wed Nov 11 2026. No macro, syntax, notation, axiom, sorry.
-/
import Derived.Test.YtcgmnpppdoadhaaDoorRows
import GoSem.ClaimSeven
namespace Go.Proofs.YtcgmnpppdoadhaaDoor
namespace Rows

/-- THE TIED CARD OF 'laws.FnCheckSame'. -/
def fnCheckSameCard : Claim7 := { stood := { row := fnCheckSameRow, standIns := [], harness := (true, "ff063d12baf7191f0a9287c23a4d6e270cf6082f3dd809c068a45570bb0dd942"), looks := true }, kinds := [], alts := [], laidByText := true, laidKinds := [.handle], laidTests := true, laidLooks := .later }
def FnCheckSameCardSaid : Prop := Claim7.holds Tryd.pinned (.plain (OpenSpec.ofChange fnCheckSameSpec)) fnCheckSameCard

/-- THE TIED CARD OF 'laws.FnTableText'. -/
def fnTableTextCard : Claim7 := { stood := { row := fnTableTextRow, standIns := [], harness := (true, "ff063d12baf7191f0a9287c23a4d6e270cf6082f3dd809c068a45570bb0dd942"), looks := true }, kinds := [], alts := [], laidByText := true, laidKinds := [.data, .data, .data], laidTests := true, laidLooks := .later }
def FnTableTextCardSaid : Prop := Claim7.holds Tryd.pinned (.plain (OpenSpec.ofChange fnTableTextSpec)) fnTableTextCard

/-- THE TIED CARD OF 'laws.FnExactTableText'. -/
def fnExactTableTextCard : Claim7 := { stood := { row := fnExactTableTextRow, standIns := [], harness := (true, "ff063d12baf7191f0a9287c23a4d6e270cf6082f3dd809c068a45570bb0dd942"), looks := true }, kinds := [], alts := [], laidByText := true, laidKinds := [.data, .data, .data], laidTests := true, laidLooks := .later }
def FnExactTableTextCardSaid : Prop := Claim7.holds Tryd.pinned (.plain (OpenSpec.ofChange fnExactTableTextSpec)) fnExactTableTextCard

/-- THE TIED CARD OF 'laws.FnCheckKinds'. -/
def fnCheckKindsCard : Claim7 := { stood := { row := fnCheckKindsRow, standIns := [], harness := (true, "ff063d12baf7191f0a9287c23a4d6e270cf6082f3dd809c068a45570bb0dd942"), looks := true }, kinds := [], alts := [], laidByText := true, laidKinds := [.handle], laidTests := true, laidLooks := .later }
def FnCheckKindsCardSaid : Prop := Claim7.holds Tryd.pinned (.plain (OpenSpec.ofChange fnCheckKindsSpec)) fnCheckKindsCard

/-- THE TIED CARD OF 'laws.FnCheckNone'. -/
def fnCheckNoneCard : Claim7 := { stood := { row := fnCheckNoneRow, standIns := [], harness := (true, "ff063d12baf7191f0a9287c23a4d6e270cf6082f3dd809c068a45570bb0dd942"), looks := true }, kinds := [], alts := [], laidByText := true, laidKinds := [.handle], laidTests := true, laidLooks := .later }
def FnCheckNoneCardSaid : Prop := Claim7.holds Tryd.pinned (.plain (OpenSpec.ofChange fnCheckNoneSpec)) fnCheckNoneCard

/-- THE SECOND FORM's CARD OF 'laws.FnCheckSame'. -/
def fnCheckSameUptoCard : Claim7 := { stood := { row := fnCheckSameUptoRow, standIns := [], harness := (true, "ff063d12baf7191f0a9287c23a4d6e270cf6082f3dd809c068a45570bb0dd942"), looks := true }, kinds := [], alts := [], laidByText := true, laidKinds := [.handle], laidTests := true, laidLooks := .later }
def FnCheckSameUptoCardSaid : Prop := Claim7.holds Tryd.pinned (.plain (OpenSpec.upto fnCheckSameSpec)) fnCheckSameUptoCard

/-- THE SECOND FORM's CARD OF 'laws.FnTableText'. -/
def fnTableTextUptoCard : Claim7 := { stood := { row := fnTableTextUptoRow, standIns := [], harness := (true, "ff063d12baf7191f0a9287c23a4d6e270cf6082f3dd809c068a45570bb0dd942"), looks := true }, kinds := [], alts := [], laidByText := true, laidKinds := [.data, .data, .data], laidTests := true, laidLooks := .later }
def FnTableTextUptoCardSaid : Prop := Claim7.holds Tryd.pinned (.plain (OpenSpec.upto fnTableTextSpec)) fnTableTextUptoCard

/-- THE SECOND FORM's CARD OF 'laws.FnExactTableText'. -/
def fnExactTableTextUptoCard : Claim7 := { stood := { row := fnExactTableTextUptoRow, standIns := [], harness := (true, "ff063d12baf7191f0a9287c23a4d6e270cf6082f3dd809c068a45570bb0dd942"), looks := true }, kinds := [], alts := [], laidByText := true, laidKinds := [.data, .data, .data], laidTests := true, laidLooks := .later }
def FnExactTableTextUptoCardSaid : Prop := Claim7.holds Tryd.pinned (.plain (OpenSpec.upto fnExactTableTextSpec)) fnExactTableTextUptoCard

/-- THE SECOND FORM's CARD OF 'laws.FnCheckKinds'. -/
def fnCheckKindsUptoCard : Claim7 := { stood := { row := fnCheckKindsUptoRow, standIns := [], harness := (true, "ff063d12baf7191f0a9287c23a4d6e270cf6082f3dd809c068a45570bb0dd942"), looks := true }, kinds := [], alts := [], laidByText := true, laidKinds := [.handle], laidTests := true, laidLooks := .later }
def FnCheckKindsUptoCardSaid : Prop := Claim7.holds Tryd.pinned (.plain (OpenSpec.upto fnCheckKindsSpec)) fnCheckKindsUptoCard

/-- THE SECOND FORM's CARD OF 'laws.FnCheckNone'. -/
def fnCheckNoneUptoCard : Claim7 := { stood := { row := fnCheckNoneUptoRow, standIns := [], harness := (true, "ff063d12baf7191f0a9287c23a4d6e270cf6082f3dd809c068a45570bb0dd942"), looks := true }, kinds := [], alts := [], laidByText := true, laidKinds := [.handle], laidTests := true, laidLooks := .later }
def FnCheckNoneUptoCardSaid : Prop := Claim7.holds Tryd.pinned (.plain (OpenSpec.upto fnCheckNoneSpec)) fnCheckNoneUptoCard
end Rows
end Go.Proofs.YtcgmnpppdoadhaaDoor
