/-
  DERIVED. GIVEN WITH THE SEED: THE CARDS: each row of YtnbmpdhgejppaaaDoorRows.lean that lists a variable, with what it lists TIED to the program's text (the seventh form; the later family's looks); each row that meets fmt, with fmt's text TOLD by the authors' own Lean function (tested against real Go, not proved from fmt's source: count such statements apart). THE CARD IS WHAT COUNTS. Prove the row's statement (the work); the ties are given (YtnbmpdhgejppaaaDoorTie.lean); close each card by the builder's one call (the guide's Derived/Test/ToyasCard.lean, 'card_holds'). Laid BY PROGRAM, IN A SANDBOX (cutbox-door.mjs). By AI agents, Wed Nov 11 2026. No macro, syntax, notation, axiom, sorry.
-/
import Derived.Test.YtnbmpdhgejppaaaDoorRows
import GoSem.ClaimSeven
namespace Go.Proofs.YtnbmpdhgejppaaaDoor
namespace Rows

/-- THE TIED CARD OF 'norialaw28.InstrPuts'. -/
def instrPutsCard : Claim7 := { stood := { row := instrPutsRow, standIns := [], harness := (true, "89aead31f2001863045fec99d98f41e643142196382d82b14d5e0b2aa6e16eda"), looks := false }, kinds := [], alts := [], laidByText := true, laidKinds := [.data, .data, .data], laidTests := true, laidLooks := .later }
def InstrPutsCardSaid : Prop := Claim7.holds Tryd.pinned (.plain (OpenSpec.ofChange instrPutsSpec)) instrPutsCard

/-- THE TIED CARD OF 'norialaw28.InstrApart'. -/
def instrApartCard : Claim7 := { stood := { row := instrApartRow, standIns := [], harness := (true, "89aead31f2001863045fec99d98f41e643142196382d82b14d5e0b2aa6e16eda"), looks := false }, kinds := [], alts := [], laidByText := true, laidKinds := [.data, .data, .data], laidTests := true, laidLooks := .later }
def InstrApartCardSaid : Prop := Claim7.holds Tryd.pinned (.plain (OpenSpec.ofChange instrApartSpec)) instrApartCard

/-- THE TIED CARD OF 'norialaw28.InstrGets'. -/
def instrGetsCard : Claim7 := { stood := { row := instrGetsRow, standIns := [], harness := (true, "89aead31f2001863045fec99d98f41e643142196382d82b14d5e0b2aa6e16eda"), looks := false }, kinds := [], alts := [], laidByText := true, laidKinds := [.data, .data, .data], laidTests := true, laidLooks := .later }
def InstrGetsCardSaid : Prop := Claim7.holds Tryd.pinned (.plain (OpenSpec.ofChange instrGetsSpec)) instrGetsCard

/-- THE TIED CARD OF 'norialaw28.InstrBack'. -/
def instrBackCard : Claim7 := { stood := { row := instrBackRow, standIns := [], harness := (true, "89aead31f2001863045fec99d98f41e643142196382d82b14d5e0b2aa6e16eda"), looks := false }, kinds := [], alts := [], laidByText := true, laidKinds := [.data, .data, .data], laidTests := true, laidLooks := .later }
def InstrBackCardSaid : Prop := Claim7.holds Tryd.pinned (.plain (OpenSpec.ofChange instrBackSpec)) instrBackCard

/-- THE SECOND FORM's CARD OF 'norialaw28.InstrPuts'. -/
def instrPutsUptoCard : Claim7 := { stood := { row := instrPutsUptoRow, standIns := [], harness := (true, "89aead31f2001863045fec99d98f41e643142196382d82b14d5e0b2aa6e16eda"), looks := false }, kinds := [], alts := [], laidByText := true, laidKinds := [.data, .data, .data], laidTests := true, laidLooks := .later }
def InstrPutsUptoCardSaid : Prop := Claim7.holds Tryd.pinned (.plain (OpenSpec.upto instrPutsSpec)) instrPutsUptoCard

/-- THE SECOND FORM's CARD OF 'norialaw28.InstrApart'. -/
def instrApartUptoCard : Claim7 := { stood := { row := instrApartUptoRow, standIns := [], harness := (true, "89aead31f2001863045fec99d98f41e643142196382d82b14d5e0b2aa6e16eda"), looks := false }, kinds := [], alts := [], laidByText := true, laidKinds := [.data, .data, .data], laidTests := true, laidLooks := .later }
def InstrApartUptoCardSaid : Prop := Claim7.holds Tryd.pinned (.plain (OpenSpec.upto instrApartSpec)) instrApartUptoCard

/-- THE SECOND FORM's CARD OF 'norialaw28.InstrGets'. -/
def instrGetsUptoCard : Claim7 := { stood := { row := instrGetsUptoRow, standIns := [], harness := (true, "89aead31f2001863045fec99d98f41e643142196382d82b14d5e0b2aa6e16eda"), looks := false }, kinds := [], alts := [], laidByText := true, laidKinds := [.data, .data, .data], laidTests := true, laidLooks := .later }
def InstrGetsUptoCardSaid : Prop := Claim7.holds Tryd.pinned (.plain (OpenSpec.upto instrGetsSpec)) instrGetsUptoCard

/-- THE SECOND FORM's CARD OF 'norialaw28.InstrBack'. -/
def instrBackUptoCard : Claim7 := { stood := { row := instrBackUptoRow, standIns := [], harness := (true, "89aead31f2001863045fec99d98f41e643142196382d82b14d5e0b2aa6e16eda"), looks := false }, kinds := [], alts := [], laidByText := true, laidKinds := [.data, .data, .data], laidTests := true, laidLooks := .later }
def InstrBackUptoCardSaid : Prop := Claim7.holds Tryd.pinned (.plain (OpenSpec.upto instrBackSpec)) instrBackUptoCard
end Rows
end Go.Proofs.YtnbmpdhgejppaaaDoor
