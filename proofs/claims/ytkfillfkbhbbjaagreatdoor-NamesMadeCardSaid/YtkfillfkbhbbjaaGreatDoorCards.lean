/-
  DERIVED. GIVEN WITH THE SEED: THE CARDS: each row of YtkfillfkbhbbjaaGreatDoorRows.lean that lists a variable, with what it lists TIED to the program's text (the seventh form; the later family's looks); each row that meets fmt, with fmt's text TOLD by the authors' own Lean function (tested against real Go, not proved from fmt's source: count such statements apart). THE CARD IS WHAT COUNTS. Prove the row's statement (the work); the ties are given (YtkfillfkbhbbjaaGreatDoorTie.lean); close each card by the builder's one call (the guide's Derived/Test/ToyasCard.lean, 'card_holds'). Laid BY PROGRAM, IN A SANDBOX (cutbox-door.mjs). By AI agents, Wed Nov 11 2026. No macro, syntax, notation, axiom, sorry.
-/
import Derived.Test.YtkfillfkbhbbjaaGreatDoorRows
import GoSem.ClaimSeven
namespace Go.Proofs.YtkfillfkbhbbjaaGreatDoor
namespace Rows

/-- THE TIED CARD OF 'tailracelaw19.NamesKnown'. -/
def namesKnownCard : Claim7 := { stood := { row := namesKnownRow, standIns := [], harness := (true, "76f2ab19b4180583457a9d817ab189cc4fe2888250af29d1bb426f5bd31fa24b"), looks := true }, kinds := [], alts := [], laidByText := true, laidKinds := [.data, .data, .widerDeep, .widerDeep, .data, .data, .data, .data, .data, .sentinel, .sentinel, .pinned, .pinned], laidTests := true, laidLooks := .later }
def NamesKnownCardSaid : Prop := Claim7.holds Tryz.pinned (.plain (OpenSpec.ofChange namesKnownSpec)) namesKnownCard

/-- THE TIED CARD OF 'tailracelaw19.NamesMade'. -/
def namesMadeCard : Claim7 := { stood := { row := namesMadeRow, standIns := [], harness := (true, "76f2ab19b4180583457a9d817ab189cc4fe2888250af29d1bb426f5bd31fa24b"), looks := true }, kinds := [], alts := [], laidByText := true, laidKinds := [.data, .data, .widerDeep, .widerDeep, .data, .data, .data, .data, .data, .sentinel, .sentinel, .data, .data, .data, .data, .data, .data, .data, .data, .pinned, .pinned], laidTests := true, laidLooks := .later }
def NamesMadeCardSaid : Prop := Claim7.holds Tryz.pinned (.plain (OpenSpec.ofChange namesMadeSpec)) namesMadeCard

/-- THE TIED CARD OF 'tailracelaw19.NamesChain'. -/
def namesChainCard : Claim7 := { stood := { row := namesChainRow, standIns := [], harness := (true, "76f2ab19b4180583457a9d817ab189cc4fe2888250af29d1bb426f5bd31fa24b"), looks := true }, kinds := [], alts := [], laidByText := true, laidKinds := [.data, .data, .widerDeep, .widerDeep, .data, .data, .data, .data, .data, .sentinel, .sentinel, .pinned, .pinned], laidTests := true, laidLooks := .later }
def NamesChainCardSaid : Prop := Claim7.holds Tryz.pinned (.plain (OpenSpec.ofChange namesChainSpec)) namesChainCard

/-- THE TIED CARD OF 'tailracelaw19.NamesOrder'. -/
def namesOrderCard : Claim7 := { stood := { row := namesOrderRow, standIns := [], harness := (true, "76f2ab19b4180583457a9d817ab189cc4fe2888250af29d1bb426f5bd31fa24b"), looks := true }, kinds := [], alts := [], laidByText := true, laidKinds := [.data, .data, .widerDeep, .widerDeep, .data, .data, .data, .data, .data, .sentinel, .sentinel, .data, .data, .data, .data, .data, .data, .data, .data, .pinned, .pinned], laidTests := true, laidLooks := .later }
def NamesOrderCardSaid : Prop := Claim7.holds Tryz.pinned (.plain (OpenSpec.ofChange namesOrderSpec)) namesOrderCard

/-- THE TIED CARD OF 'tailracelaw19.NamesTexts'. -/
def namesTextsCard : Claim7 := { stood := { row := namesTextsRow, standIns := [], harness := (true, "76f2ab19b4180583457a9d817ab189cc4fe2888250af29d1bb426f5bd31fa24b"), looks := true }, kinds := [], alts := [], laidByText := true, laidKinds := [.data, .data, .widerDeep, .widerDeep, .data, .data, .data, .data, .data, .sentinel, .sentinel, .data, .data, .data, .data, .data, .data, .data, .data, .pinned, .pinned], laidTests := true, laidLooks := .later }
def NamesTextsCardSaid : Prop := Claim7.holds Tryz.pinned (.plain (OpenSpec.ofChange namesTextsSpec)) namesTextsCard

/-- THE TIED CARD OF 'tailracelaw19.NamesTurned'. -/
def namesTurnedCard : Claim7 := { stood := { row := namesTurnedRow, standIns := [], harness := (true, "76f2ab19b4180583457a9d817ab189cc4fe2888250af29d1bb426f5bd31fa24b"), looks := true }, kinds := [], alts := [], laidByText := true, laidKinds := [.data, .data, .widerDeep, .widerDeep, .data, .data, .data, .data, .data, .sentinel, .sentinel, .data, .data, .data, .data, .data, .data, .data, .data, .pinned, .pinned], laidTests := true, laidLooks := .later }
def NamesTurnedCardSaid : Prop := Claim7.holds Tryz.pinned (.plain (OpenSpec.ofChange namesTurnedSpec)) namesTurnedCard

/-- THE SECOND FORM's CARD OF 'tailracelaw19.NamesKnown'. -/
def namesKnownUptoCard : Claim7 := { stood := { row := namesKnownUptoRow, standIns := [], harness := (true, "76f2ab19b4180583457a9d817ab189cc4fe2888250af29d1bb426f5bd31fa24b"), looks := true }, kinds := [], alts := [], laidByText := true, laidKinds := [.data, .data, .widerDeep, .widerDeep, .data, .data, .data, .data, .data, .sentinel, .sentinel, .pinned, .pinned], laidTests := true, laidLooks := .later }
def NamesKnownUptoCardSaid : Prop := Claim7.holds Tryz.pinned (.plain (OpenSpec.upto namesKnownSpec)) namesKnownUptoCard

/-- THE SECOND FORM's CARD OF 'tailracelaw19.NamesMade'. -/
def namesMadeUptoCard : Claim7 := { stood := { row := namesMadeUptoRow, standIns := [], harness := (true, "76f2ab19b4180583457a9d817ab189cc4fe2888250af29d1bb426f5bd31fa24b"), looks := true }, kinds := [], alts := [], laidByText := true, laidKinds := [.data, .data, .widerDeep, .widerDeep, .data, .data, .data, .data, .data, .sentinel, .sentinel, .data, .data, .data, .data, .data, .data, .data, .data, .pinned, .pinned], laidTests := true, laidLooks := .later }
def NamesMadeUptoCardSaid : Prop := Claim7.holds Tryz.pinned (.plain (OpenSpec.upto namesMadeSpec)) namesMadeUptoCard

/-- THE SECOND FORM's CARD OF 'tailracelaw19.NamesChain'. -/
def namesChainUptoCard : Claim7 := { stood := { row := namesChainUptoRow, standIns := [], harness := (true, "76f2ab19b4180583457a9d817ab189cc4fe2888250af29d1bb426f5bd31fa24b"), looks := true }, kinds := [], alts := [], laidByText := true, laidKinds := [.data, .data, .widerDeep, .widerDeep, .data, .data, .data, .data, .data, .sentinel, .sentinel, .pinned, .pinned], laidTests := true, laidLooks := .later }
def NamesChainUptoCardSaid : Prop := Claim7.holds Tryz.pinned (.plain (OpenSpec.upto namesChainSpec)) namesChainUptoCard

/-- THE SECOND FORM's CARD OF 'tailracelaw19.NamesOrder'. -/
def namesOrderUptoCard : Claim7 := { stood := { row := namesOrderUptoRow, standIns := [], harness := (true, "76f2ab19b4180583457a9d817ab189cc4fe2888250af29d1bb426f5bd31fa24b"), looks := true }, kinds := [], alts := [], laidByText := true, laidKinds := [.data, .data, .widerDeep, .widerDeep, .data, .data, .data, .data, .data, .sentinel, .sentinel, .data, .data, .data, .data, .data, .data, .data, .data, .pinned, .pinned], laidTests := true, laidLooks := .later }
def NamesOrderUptoCardSaid : Prop := Claim7.holds Tryz.pinned (.plain (OpenSpec.upto namesOrderSpec)) namesOrderUptoCard

/-- THE SECOND FORM's CARD OF 'tailracelaw19.NamesTexts'. -/
def namesTextsUptoCard : Claim7 := { stood := { row := namesTextsUptoRow, standIns := [], harness := (true, "76f2ab19b4180583457a9d817ab189cc4fe2888250af29d1bb426f5bd31fa24b"), looks := true }, kinds := [], alts := [], laidByText := true, laidKinds := [.data, .data, .widerDeep, .widerDeep, .data, .data, .data, .data, .data, .sentinel, .sentinel, .data, .data, .data, .data, .data, .data, .data, .data, .pinned, .pinned], laidTests := true, laidLooks := .later }
def NamesTextsUptoCardSaid : Prop := Claim7.holds Tryz.pinned (.plain (OpenSpec.upto namesTextsSpec)) namesTextsUptoCard

/-- THE SECOND FORM's CARD OF 'tailracelaw19.NamesTurned'. -/
def namesTurnedUptoCard : Claim7 := { stood := { row := namesTurnedUptoRow, standIns := [], harness := (true, "76f2ab19b4180583457a9d817ab189cc4fe2888250af29d1bb426f5bd31fa24b"), looks := true }, kinds := [], alts := [], laidByText := true, laidKinds := [.data, .data, .widerDeep, .widerDeep, .data, .data, .data, .data, .data, .sentinel, .sentinel, .data, .data, .data, .data, .data, .data, .data, .data, .pinned, .pinned], laidTests := true, laidLooks := .later }
def NamesTurnedUptoCardSaid : Prop := Claim7.holds Tryz.pinned (.plain (OpenSpec.upto namesTurnedSpec)) namesTurnedUptoCard
end Rows
end Go.Proofs.YtkfillfkbhbbjaaGreatDoor
