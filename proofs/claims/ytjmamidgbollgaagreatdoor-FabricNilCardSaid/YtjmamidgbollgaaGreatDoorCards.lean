/-
  DERIVED. GIVEN WITH THE SEED: THE CARDS: each row of YtjmamidgbollgaaGreatDoorRows.lean that lists a variable, with what it lists TIED to the program's text (the seventh form; the later family's looks); each row that meets fmt, with fmt's text TOLD by the authors' own Lean function (tested against real Go, not proved from fmt's source: count such statements apart). THE CARD IS WHAT COUNTS. Prove the row's statement (the work); the ties are given (YtjmamidgbollgaaGreatDoorTie.lean); close each card by the builder's one call (the guide's Derived/Test/ToyasCard.lean, 'card_holds'). Laid BY PROGRAM, IN A SANDBOX (cutbox-door.mjs). By AI agents, Wed Nov 11 2026. No macro, syntax, notation, axiom, sorry.
-/
import Derived.Test.YtjmamidgbollgaaGreatDoorRows
import GoSem.ClaimSeven
namespace Go.Proofs.YtjmamidgbollgaaGreatDoor
namespace Rows

/-- THE TIED CARD OF 'tocsinlaw28.CellNil'. -/
def cellNilCard : Claim7 := { stood := { row := cellNilRow, standIns := [], harness := (true, "1884e8791762ac40c827927e7c6e9b486820e74e9a0354526c37b6879cc5abd4"), looks := true }, kinds := [], alts := [], laidByText := true, laidKinds := [.sentinel, .sentinel, .data, .data, .data, .pinned, .data, .data, .listed], laidTests := true, laidLooks := .later }
def CellNilCardSaid : Prop := Claim7.holds Tryz.pinned (.plain (OpenSpec.ofChange cellNilSpec)) cellNilCard

/-- THE TIED CARD OF 'tocsinlaw28.CellForms'. -/
def cellFormsCard : Claim7 := { stood := { row := cellFormsRow, standIns := [], harness := (true, "1884e8791762ac40c827927e7c6e9b486820e74e9a0354526c37b6879cc5abd4"), looks := true }, kinds := [], alts := [], laidByText := true, laidKinds := [.data, .data, .data, .pinned, .data, .data, .listed, .sentinel, .sentinel], laidTests := true, laidLooks := .later }
def CellFormsCardSaid : Prop := Claim7.holds Tryz.pinned (.plain (OpenSpec.ofChange cellFormsSpec)) cellFormsCard

/-- THE TIED CARD OF 'tocsinlaw29.KeepOps'. -/
def keepOpsCard : Claim7 := { stood := { row := keepOpsRow, standIns := [], harness := (true, "1884e8791762ac40c827927e7c6e9b486820e74e9a0354526c37b6879cc5abd4"), looks := true }, kinds := [], alts := [], laidByText := true, laidKinds := [.data, .data, .data, .sentinel, .sentinel, .pinned, .data, .data, .listed], laidTests := true, laidLooks := .later }
def KeepOpsCardSaid : Prop := Claim7.holds Tryz.pinned (.plain (OpenSpec.ofChange keepOpsSpec)) keepOpsCard

/-- THE TIED CARD OF 'tocsinlaw29.KeepNil'. -/
def keepNilCard : Claim7 := { stood := { row := keepNilRow, standIns := [], harness := (true, "1884e8791762ac40c827927e7c6e9b486820e74e9a0354526c37b6879cc5abd4"), looks := true }, kinds := [], alts := [], laidByText := true, laidKinds := [.data, .data, .data, .sentinel, .sentinel, .pinned, .data, .data, .listed], laidTests := true, laidLooks := .later }
def KeepNilCardSaid : Prop := Claim7.holds Tryz.pinned (.plain (OpenSpec.ofChange keepNilSpec)) keepNilCard

/-- THE TIED CARD OF 'tocsinlaw31.FabricNil'. -/
def fabricNilCard : Claim7 := { stood := { row := fabricNilRow, standIns := [], harness := (true, "1884e8791762ac40c827927e7c6e9b486820e74e9a0354526c37b6879cc5abd4"), looks := true }, kinds := [], alts := [], laidByText := true, laidKinds := [.sentinel, .sentinel, .data, .data, .data, .pinned, .data, .data, .listed], laidTests := true, laidLooks := .later }
def FabricNilCardSaid : Prop := Claim7.holds Tryz.pinned (.plain (OpenSpec.ofChange fabricNilSpec)) fabricNilCard

/-- THE TIED CARD OF 'tocsinlaw32.SessionScripts'. -/
def sessionScriptsCard : Claim7 := { stood := { row := sessionScriptsRow, standIns := [], harness := (true, "1884e8791762ac40c827927e7c6e9b486820e74e9a0354526c37b6879cc5abd4"), looks := true }, kinds := [], alts := [], laidByText := true, laidKinds := [.data, .data, .data, .sentinel, .sentinel, .pinned, .data, .data, .listed], laidTests := true, laidLooks := .later }
def SessionScriptsCardSaid : Prop := Claim7.holds Tryz.pinned (.plain (OpenSpec.ofChange sessionScriptsSpec)) sessionScriptsCard

/-- THE SECOND FORM's CARD OF 'tocsinlaw28.CellNil'. -/
def cellNilUptoCard : Claim7 := { stood := { row := cellNilUptoRow, standIns := [], harness := (true, "1884e8791762ac40c827927e7c6e9b486820e74e9a0354526c37b6879cc5abd4"), looks := true }, kinds := [], alts := [], laidByText := true, laidKinds := [.sentinel, .sentinel, .data, .data, .data, .pinned, .data, .data, .listed], laidTests := true, laidLooks := .later }
def CellNilUptoCardSaid : Prop := Claim7.holds Tryz.pinned (.plain (OpenSpec.upto cellNilSpec)) cellNilUptoCard

/-- THE SECOND FORM's CARD OF 'tocsinlaw28.CellForms'. -/
def cellFormsUptoCard : Claim7 := { stood := { row := cellFormsUptoRow, standIns := [], harness := (true, "1884e8791762ac40c827927e7c6e9b486820e74e9a0354526c37b6879cc5abd4"), looks := true }, kinds := [], alts := [], laidByText := true, laidKinds := [.data, .data, .data, .pinned, .data, .data, .listed, .sentinel, .sentinel], laidTests := true, laidLooks := .later }
def CellFormsUptoCardSaid : Prop := Claim7.holds Tryz.pinned (.plain (OpenSpec.upto cellFormsSpec)) cellFormsUptoCard

/-- THE SECOND FORM's CARD OF 'tocsinlaw29.KeepOps'. -/
def keepOpsUptoCard : Claim7 := { stood := { row := keepOpsUptoRow, standIns := [], harness := (true, "1884e8791762ac40c827927e7c6e9b486820e74e9a0354526c37b6879cc5abd4"), looks := true }, kinds := [], alts := [], laidByText := true, laidKinds := [.data, .data, .data, .sentinel, .sentinel, .pinned, .data, .data, .listed], laidTests := true, laidLooks := .later }
def KeepOpsUptoCardSaid : Prop := Claim7.holds Tryz.pinned (.plain (OpenSpec.upto keepOpsSpec)) keepOpsUptoCard

/-- THE SECOND FORM's CARD OF 'tocsinlaw29.KeepNil'. -/
def keepNilUptoCard : Claim7 := { stood := { row := keepNilUptoRow, standIns := [], harness := (true, "1884e8791762ac40c827927e7c6e9b486820e74e9a0354526c37b6879cc5abd4"), looks := true }, kinds := [], alts := [], laidByText := true, laidKinds := [.data, .data, .data, .sentinel, .sentinel, .pinned, .data, .data, .listed], laidTests := true, laidLooks := .later }
def KeepNilUptoCardSaid : Prop := Claim7.holds Tryz.pinned (.plain (OpenSpec.upto keepNilSpec)) keepNilUptoCard

/-- THE SECOND FORM's CARD OF 'tocsinlaw31.FabricNil'. -/
def fabricNilUptoCard : Claim7 := { stood := { row := fabricNilUptoRow, standIns := [], harness := (true, "1884e8791762ac40c827927e7c6e9b486820e74e9a0354526c37b6879cc5abd4"), looks := true }, kinds := [], alts := [], laidByText := true, laidKinds := [.sentinel, .sentinel, .data, .data, .data, .pinned, .data, .data, .listed], laidTests := true, laidLooks := .later }
def FabricNilUptoCardSaid : Prop := Claim7.holds Tryz.pinned (.plain (OpenSpec.upto fabricNilSpec)) fabricNilUptoCard

/-- THE SECOND FORM's CARD OF 'tocsinlaw32.SessionScripts'. -/
def sessionScriptsUptoCard : Claim7 := { stood := { row := sessionScriptsUptoRow, standIns := [], harness := (true, "1884e8791762ac40c827927e7c6e9b486820e74e9a0354526c37b6879cc5abd4"), looks := true }, kinds := [], alts := [], laidByText := true, laidKinds := [.data, .data, .data, .sentinel, .sentinel, .pinned, .data, .data, .listed], laidTests := true, laidLooks := .later }
def SessionScriptsUptoCardSaid : Prop := Claim7.holds Tryz.pinned (.plain (OpenSpec.upto sessionScriptsSpec)) sessionScriptsUptoCard
end Rows
end Go.Proofs.YtjmamidgbollgaaGreatDoor
