/-
  DERIVED. GIVEN WITH THE SEED: THE CARDS: each row of YtemddnccomeibaaDoorRows.lean that lists a variable, with what it lists TIED to the program's text (the seventh form; the later family's looks); each row that meets fmt, with fmt's text TOLD by the authors' own Lean function (tested against real Go, not proved from fmt's source: count such statements apart). THE CARD IS WHAT COUNTS. Prove the row's statement (the work); the ties are given (YtemddnccomeibaaDoorTie.lean); close each card by the builder's one call (the guide's Derived/Test/ToyasCard.lean, 'card_holds'). Laid BY PROGRAM, IN A SANDBOX (cutbox-door.mjs). By AI agents, Wed Nov 11 2026. No macro, syntax, notation, axiom, sorry.
-/
import Derived.Test.YtemddnccomeibaaDoorRows
import GoSem.ClaimSeven
namespace Go.Proofs.YtemddnccomeibaaDoor
namespace Rows

/-- THE TIED CARD OF 'halyardlaw10.IpcpoptTexts'. -/
def ipcpoptTextsCard : Claim7 := { stood := { row := ipcpoptTextsRow, standIns := [], harness := (true, "2e819af1eb192db8d361021fa5c7e7cc191a9469bc042f861a887633448af2ea"), looks := true }, kinds := [], alts := [], laidByText := true, laidKinds := [.data, .data, .data, .sentinel, .sentinel, .funcs], laidTests := true, laidLooks := .later }
def IpcpoptTextsCardSaid : Prop := Claim7.holds Tryd.pinned (.plain (OpenSpec.ofChange ipcpoptTextsSpec)) ipcpoptTextsCard

/-- THE TIED CARD OF 'halyardlaw10.IpcpoptBack'. -/
def ipcpoptBackCard : Claim7 := { stood := { row := ipcpoptBackRow, standIns := [], harness := (true, "2e819af1eb192db8d361021fa5c7e7cc191a9469bc042f861a887633448af2ea"), looks := true }, kinds := [], alts := [], laidByText := true, laidKinds := [.data, .data, .data, .sentinel, .sentinel, .funcs], laidTests := true, laidLooks := .later }
def IpcpoptBackCardSaid : Prop := Claim7.holds Tryd.pinned (.plain (OpenSpec.ofChange ipcpoptBackSpec)) ipcpoptBackCard

/-- THE TIED CARD OF 'halyardlaw10.IpcpoptTells'. -/
def ipcpoptTellsCard : Claim7 := { stood := { row := ipcpoptTellsRow, standIns := [], harness := (true, "2e819af1eb192db8d361021fa5c7e7cc191a9469bc042f861a887633448af2ea"), looks := true }, kinds := [], alts := [], laidByText := true, laidKinds := [.data, .data, .data, .sentinel, .sentinel, .funcs], laidTests := true, laidLooks := .later }
def IpcpoptTellsCardSaid : Prop := Claim7.holds Tryd.pinned (.plain (OpenSpec.ofChange ipcpoptTellsSpec)) ipcpoptTellsCard

/-- THE TIED CARD OF 'halyardlaw10.IpcpoptOrder'. -/
def ipcpoptOrderCard : Claim7 := { stood := { row := ipcpoptOrderRow, standIns := [], harness := (true, "2e819af1eb192db8d361021fa5c7e7cc191a9469bc042f861a887633448af2ea"), looks := true }, kinds := [], alts := [], laidByText := true, laidKinds := [.data, .data, .data, .sentinel, .sentinel, .funcs], laidTests := true, laidLooks := .later }
def IpcpoptOrderCardSaid : Prop := Claim7.holds Tryd.pinned (.plain (OpenSpec.ofChange ipcpoptOrderSpec)) ipcpoptOrderCard

/-- THE SECOND FORM's CARD OF 'halyardlaw10.IpcpoptTexts'. -/
def ipcpoptTextsUptoCard : Claim7 := { stood := { row := ipcpoptTextsUptoRow, standIns := [], harness := (true, "2e819af1eb192db8d361021fa5c7e7cc191a9469bc042f861a887633448af2ea"), looks := true }, kinds := [], alts := [], laidByText := true, laidKinds := [.data, .data, .data, .sentinel, .sentinel, .funcs], laidTests := true, laidLooks := .later }
def IpcpoptTextsUptoCardSaid : Prop := Claim7.holds Tryd.pinned (.plain (OpenSpec.upto ipcpoptTextsSpec)) ipcpoptTextsUptoCard

/-- THE SECOND FORM's CARD OF 'halyardlaw10.IpcpoptBack'. -/
def ipcpoptBackUptoCard : Claim7 := { stood := { row := ipcpoptBackUptoRow, standIns := [], harness := (true, "2e819af1eb192db8d361021fa5c7e7cc191a9469bc042f861a887633448af2ea"), looks := true }, kinds := [], alts := [], laidByText := true, laidKinds := [.data, .data, .data, .sentinel, .sentinel, .funcs], laidTests := true, laidLooks := .later }
def IpcpoptBackUptoCardSaid : Prop := Claim7.holds Tryd.pinned (.plain (OpenSpec.upto ipcpoptBackSpec)) ipcpoptBackUptoCard

/-- THE SECOND FORM's CARD OF 'halyardlaw10.IpcpoptTells'. -/
def ipcpoptTellsUptoCard : Claim7 := { stood := { row := ipcpoptTellsUptoRow, standIns := [], harness := (true, "2e819af1eb192db8d361021fa5c7e7cc191a9469bc042f861a887633448af2ea"), looks := true }, kinds := [], alts := [], laidByText := true, laidKinds := [.data, .data, .data, .sentinel, .sentinel, .funcs], laidTests := true, laidLooks := .later }
def IpcpoptTellsUptoCardSaid : Prop := Claim7.holds Tryd.pinned (.plain (OpenSpec.upto ipcpoptTellsSpec)) ipcpoptTellsUptoCard

/-- THE SECOND FORM's CARD OF 'halyardlaw10.IpcpoptOrder'. -/
def ipcpoptOrderUptoCard : Claim7 := { stood := { row := ipcpoptOrderUptoRow, standIns := [], harness := (true, "2e819af1eb192db8d361021fa5c7e7cc191a9469bc042f861a887633448af2ea"), looks := true }, kinds := [], alts := [], laidByText := true, laidKinds := [.data, .data, .data, .sentinel, .sentinel, .funcs], laidTests := true, laidLooks := .later }
def IpcpoptOrderUptoCardSaid : Prop := Claim7.holds Tryd.pinned (.plain (OpenSpec.upto ipcpoptOrderSpec)) ipcpoptOrderUptoCard
end Rows
end Go.Proofs.YtemddnccomeibaaDoor
