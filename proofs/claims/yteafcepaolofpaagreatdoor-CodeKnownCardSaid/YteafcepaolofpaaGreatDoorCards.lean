/-
  DERIVED. GIVEN WITH THE SEED: THE CARDS: each row of YteafcepaolofpaaGreatDoorRows.lean that lists a variable, with what it lists TIED to the program's text (the seventh form; the later family's looks); each row that meets fmt, with fmt's text TOLD by the authors' own Lean function (tested against real Go, not proved from fmt's source: count such statements apart). THE CARD IS WHAT COUNTS. Prove the row's statement (the work); the ties are given (YteafcepaolofpaaGreatDoorTie.lean); close each card by the builder's one call (the guide's Derived/Test/ToyasCard.lean, 'card_holds'). Laid BY PROGRAM, IN A SANDBOX (cutbox-door.mjs). By AI agents, Wed Nov 11 2026. No macro, syntax, notation, axiom, sorry.
-/
import Derived.Test.YteafcepaolofpaaGreatDoorRows
import GoSem.ClaimSeven
namespace Go.Proofs.YteafcepaolofpaaGreatDoor
namespace Rows

/-- THE TIED CARD OF 'tailracelaw20.CodeKnown'. -/
def codeKnownCard : Claim7 := { stood := { row := codeKnownRow, standIns := [], harness := (true, "c08548fb9e1a909bac88c0c652b94d2dd1c9339e0fd7a4e38c8d19fe1e9d012e"), looks := true }, kinds := [], alts := [], laidByText := true, laidKinds := [.data, .data, .widerDeep, .widerDeep, .data, .data, .data, .data, .data, .sentinel, .sentinel, .pinned, .pinned], laidTests := true, laidLooks := .later }
def CodeKnownCardSaid : Prop := Claim7.holds Tryz.pinned (.plain (OpenSpec.ofChange codeKnownSpec)) codeKnownCard

/-- THE TIED CARD OF 'tailracelaw20.CodeMade'. -/
def codeMadeCard : Claim7 := { stood := { row := codeMadeRow, standIns := [], harness := (true, "c08548fb9e1a909bac88c0c652b94d2dd1c9339e0fd7a4e38c8d19fe1e9d012e"), looks := true }, kinds := [], alts := [], laidByText := true, laidKinds := [.data, .data, .widerDeep, .widerDeep, .data, .data, .data, .data, .data, .sentinel, .sentinel, .data, .data, .data, .data, .data, .data, .data, .data, .pinned, .pinned], laidTests := true, laidLooks := .later }
def CodeMadeCardSaid : Prop := Claim7.holds Tryz.pinned (.plain (OpenSpec.ofChange codeMadeSpec)) codeMadeCard

/-- THE TIED CARD OF 'tailracelaw20.CodeLevel'. -/
def codeLevelCard : Claim7 := { stood := { row := codeLevelRow, standIns := [], harness := (true, "c08548fb9e1a909bac88c0c652b94d2dd1c9339e0fd7a4e38c8d19fe1e9d012e"), looks := true }, kinds := [], alts := [], laidByText := true, laidKinds := [.data, .data, .widerDeep, .widerDeep, .data, .data, .data, .data, .data, .sentinel, .sentinel, .data, .data, .data, .data, .data, .data, .data, .data, .pinned, .pinned], laidTests := true, laidLooks := .later }
def CodeLevelCardSaid : Prop := Claim7.holds Tryz.pinned (.plain (OpenSpec.ofChange codeLevelSpec)) codeLevelCard

/-- THE SECOND FORM's CARD OF 'tailracelaw20.CodeKnown'. -/
def codeKnownUptoCard : Claim7 := { stood := { row := codeKnownUptoRow, standIns := [], harness := (true, "c08548fb9e1a909bac88c0c652b94d2dd1c9339e0fd7a4e38c8d19fe1e9d012e"), looks := true }, kinds := [], alts := [], laidByText := true, laidKinds := [.data, .data, .widerDeep, .widerDeep, .data, .data, .data, .data, .data, .sentinel, .sentinel, .pinned, .pinned], laidTests := true, laidLooks := .later }
def CodeKnownUptoCardSaid : Prop := Claim7.holds Tryz.pinned (.plain (OpenSpec.upto codeKnownSpec)) codeKnownUptoCard

/-- THE SECOND FORM's CARD OF 'tailracelaw20.CodeMade'. -/
def codeMadeUptoCard : Claim7 := { stood := { row := codeMadeUptoRow, standIns := [], harness := (true, "c08548fb9e1a909bac88c0c652b94d2dd1c9339e0fd7a4e38c8d19fe1e9d012e"), looks := true }, kinds := [], alts := [], laidByText := true, laidKinds := [.data, .data, .widerDeep, .widerDeep, .data, .data, .data, .data, .data, .sentinel, .sentinel, .data, .data, .data, .data, .data, .data, .data, .data, .pinned, .pinned], laidTests := true, laidLooks := .later }
def CodeMadeUptoCardSaid : Prop := Claim7.holds Tryz.pinned (.plain (OpenSpec.upto codeMadeSpec)) codeMadeUptoCard

/-- THE SECOND FORM's CARD OF 'tailracelaw20.CodeLevel'. -/
def codeLevelUptoCard : Claim7 := { stood := { row := codeLevelUptoRow, standIns := [], harness := (true, "c08548fb9e1a909bac88c0c652b94d2dd1c9339e0fd7a4e38c8d19fe1e9d012e"), looks := true }, kinds := [], alts := [], laidByText := true, laidKinds := [.data, .data, .widerDeep, .widerDeep, .data, .data, .data, .data, .data, .sentinel, .sentinel, .data, .data, .data, .data, .data, .data, .data, .data, .pinned, .pinned], laidTests := true, laidLooks := .later }
def CodeLevelUptoCardSaid : Prop := Claim7.holds Tryz.pinned (.plain (OpenSpec.upto codeLevelSpec)) codeLevelUptoCard
end Rows
end Go.Proofs.YteafcepaolofpaaGreatDoor
