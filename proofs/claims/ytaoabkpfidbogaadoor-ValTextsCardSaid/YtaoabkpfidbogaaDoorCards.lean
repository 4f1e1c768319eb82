/-
  DERIVED. GIVEN WITH THE SEED: THE CARDS: each row of YtaoabkpfidbogaaDoorRows.lean that lists a variable, with what it lists TIED to the program's text (the seventh form; the later family's looks); each row that meets fmt, with fmt's text TOLD by the authors' own Lean function (tested against real Go, not proved from fmt's source: count such statements apart). THE CARD IS WHAT COUNTS. Prove the row's statement (the work); the ties are given (YtaoabkpfidbogaaDoorTie.lean); close each card by the builder's one call (the guide's Derived/Test/ToyasCard.lean, 'card_holds'). Laid BY PROGRAM, IN A SANDBOX (cutbox-door.mjs). By AI agents, Wed Nov 11 2026. No macro, syntax, notation, axiom, sorry.
-/
import Derived.Test.YtaoabkpfidbogaaDoorRows
import GoSem.ClaimSeven
namespace Go.Proofs.YtaoabkpfidbogaaDoor
namespace Rows

/-- THE TIED CARD OF 'norialaw06.ValTexts'. -/
def valTextsCard : Claim7 := { stood := { row := valTextsRow, standIns := [], harness := (true, "7e62fbf4b80a57aacad61eeee45f4474d026dd2f12e95c42e698ea2c7789989c"), looks := false }, kinds := [], alts := [], laidByText := true, laidKinds := [.data, .data, .data], laidTests := true, laidLooks := .later }
def ValTextsCardSaid : Prop := Claim7.holds Tryd.pinned (.plain (OpenSpec.ofChange valTextsSpec)) valTextsCard

/-- THE TIED CARD OF 'norialaw06.ValApart'. -/
def valApartCard : Claim7 := { stood := { row := valApartRow, standIns := [], harness := (true, "7e62fbf4b80a57aacad61eeee45f4474d026dd2f12e95c42e698ea2c7789989c"), looks := false }, kinds := [], alts := [], laidByText := true, laidKinds := [.data, .data, .data], laidTests := true, laidLooks := .later }
def ValApartCardSaid : Prop := Claim7.holds Tryd.pinned (.plain (OpenSpec.ofChange valApartSpec)) valApartCard

/-- THE TIED CARD OF 'norialaw06.ValRight'. -/
def valRightCard : Claim7 := { stood := { row := valRightRow, standIns := [], harness := (true, "7e62fbf4b80a57aacad61eeee45f4474d026dd2f12e95c42e698ea2c7789989c"), looks := false }, kinds := [], alts := [], laidByText := true, laidKinds := [.data, .data, .data], laidTests := true, laidLooks := .later }
def ValRightCardSaid : Prop := Claim7.holds Tryd.pinned (.plain (OpenSpec.ofChange valRightSpec)) valRightCard

/-- THE SECOND FORM's CARD OF 'norialaw06.ValTexts'. -/
def valTextsUptoCard : Claim7 := { stood := { row := valTextsUptoRow, standIns := [], harness := (true, "7e62fbf4b80a57aacad61eeee45f4474d026dd2f12e95c42e698ea2c7789989c"), looks := false }, kinds := [], alts := [], laidByText := true, laidKinds := [.data, .data, .data], laidTests := true, laidLooks := .later }
def ValTextsUptoCardSaid : Prop := Claim7.holds Tryd.pinned (.plain (OpenSpec.upto valTextsSpec)) valTextsUptoCard

/-- THE SECOND FORM's CARD OF 'norialaw06.ValApart'. -/
def valApartUptoCard : Claim7 := { stood := { row := valApartUptoRow, standIns := [], harness := (true, "7e62fbf4b80a57aacad61eeee45f4474d026dd2f12e95c42e698ea2c7789989c"), looks := false }, kinds := [], alts := [], laidByText := true, laidKinds := [.data, .data, .data], laidTests := true, laidLooks := .later }
def ValApartUptoCardSaid : Prop := Claim7.holds Tryd.pinned (.plain (OpenSpec.upto valApartSpec)) valApartUptoCard

/-- THE SECOND FORM's CARD OF 'norialaw06.ValRight'. -/
def valRightUptoCard : Claim7 := { stood := { row := valRightUptoRow, standIns := [], harness := (true, "7e62fbf4b80a57aacad61eeee45f4474d026dd2f12e95c42e698ea2c7789989c"), looks := false }, kinds := [], alts := [], laidByText := true, laidKinds := [.data, .data, .data], laidTests := true, laidLooks := .later }
def ValRightUptoCardSaid : Prop := Claim7.holds Tryd.pinned (.plain (OpenSpec.upto valRightSpec)) valRightUptoCard
end Rows
end Go.Proofs.YtaoabkpfidbogaaDoor
