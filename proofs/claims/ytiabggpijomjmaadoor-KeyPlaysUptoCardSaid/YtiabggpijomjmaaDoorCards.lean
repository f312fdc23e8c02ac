/-
  DERIVED. GIVEN WITH THE SEED: THE CARDS: each row of YtiabggpijomjmaaDoorRows.lean that lists a variable, with what it lists TIED to the program's text (the seventh form; the later family's looks); each row that meets fmt, with fmt's text TOLD by the authors' own Lean function (tested against real Go, not proved from fmt's source: count such statements apart). THE CARD IS WHAT COUNTS. Prove the row's statement (the work); the ties are given (YtiabggpijomjmaaDoorTie.lean); close each card by the builder's one call (the guide's Derived/Test/ToyasCard.lean, 'card_holds'). Laid BY PROGRAM, IN A SANDBOX (cutbox-door.mjs). By AI agents, Wed Nov 11 2026. No macro, syntax, notation, axiom, sorry.
-/
import Derived.Test.YtiabggpijomjmaaDoorRows
import GoSem.ClaimSeven
namespace Go.Proofs.YtiabggpijomjmaaDoor
namespace Rows

/-- THE TIED CARD OF 'marqueelaw04.KeyBytes'. -/
def keyBytesCard : Claim7 := { stood := { row := keyBytesRow, standIns := [], harness := (true, "9c04d339d2b2c88d1603cd18d7159e27c7b67607a40d7de1e00a7a592e5fc61c"), looks := false }, kinds := [], alts := [], laidByText := true, laidKinds := [.data, .pinned], laidTests := true, laidLooks := .later }
def KeyBytesCardSaid : Prop := Claim7.holds Tryd.pinned (.plain (OpenSpec.ofChange keyBytesSpec)) keyBytesCard

/-- THE TIED CARD OF 'marqueelaw04.KeyPlays'. -/
def keyPlaysCard : Claim7 := { stood := { row := keyPlaysRow, standIns := [], harness := (true, "9c04d339d2b2c88d1603cd18d7159e27c7b67607a40d7de1e00a7a592e5fc61c"), looks := false }, kinds := [], alts := [], laidByText := true, laidKinds := [.data, .pinned], laidTests := true, laidLooks := .later }
def KeyPlaysCardSaid : Prop := Claim7.holds Tryd.pinned (.plain (OpenSpec.ofChange keyPlaysSpec)) keyPlaysCard

/-- THE TIED CARD OF 'marqueelaw04.KeyBack'. -/
def keyBackCard : Claim7 := { stood := { row := keyBackRow, standIns := [], harness := (true, "9c04d339d2b2c88d1603cd18d7159e27c7b67607a40d7de1e00a7a592e5fc61c"), looks := false }, kinds := [], alts := [], laidByText := true, laidKinds := [.data, .pinned], laidTests := true, laidLooks := .later }
def KeyBackCardSaid : Prop := Claim7.holds Tryd.pinned (.plain (OpenSpec.ofChange keyBackSpec)) keyBackCard

/-- THE SECOND FORM's CARD OF 'marqueelaw04.KeyBytes'. -/
def keyBytesUptoCard : Claim7 := { stood := { row := keyBytesUptoRow, standIns := [], harness := (true, "9c04d339d2b2c88d1603cd18d7159e27c7b67607a40d7de1e00a7a592e5fc61c"), looks := false }, kinds := [], alts := [], laidByText := true, laidKinds := [.data, .pinned], laidTests := true, laidLooks := .later }
def KeyBytesUptoCardSaid : Prop := Claim7.holds Tryd.pinned (.plain (OpenSpec.upto keyBytesSpec)) keyBytesUptoCard

/-- THE SECOND FORM's CARD OF 'marqueelaw04.KeyPlays'. -/
def keyPlaysUptoCard : Claim7 := { stood := { row := keyPlaysUptoRow, standIns := [], harness := (true, "9c04d339d2b2c88d1603cd18d7159e27c7b67607a40d7de1e00a7a592e5fc61c"), looks := false }, kinds := [], alts := [], laidByText := true, laidKinds := [.data, .pinned], laidTests := true, laidLooks := .later }
def KeyPlaysUptoCardSaid : Prop := Claim7.holds Tryd.pinned (.plain (OpenSpec.upto keyPlaysSpec)) keyPlaysUptoCard

/-- THE SECOND FORM's CARD OF 'marqueelaw04.KeyBack'. -/
def keyBackUptoCard : Claim7 := { stood := { row := keyBackUptoRow, standIns := [], harness := (true, "9c04d339d2b2c88d1603cd18d7159e27c7b67607a40d7de1e00a7a592e5fc61c"), looks := false }, kinds := [], alts := [], laidByText := true, laidKinds := [.data, .pinned], laidTests := true, laidLooks := .later }
def KeyBackUptoCardSaid : Prop := Claim7.holds Tryd.pinned (.plain (OpenSpec.upto keyBackSpec)) keyBackUptoCard
end Rows
end Go.Proofs.YtiabggpijomjmaaDoor
