/-
  DERIVED. GIVEN WITH THE SEED: THE CARDS: each row of YtkefjfaeaalmbaaDoorRows.lean that lists a variable, with what it lists TIED to the program's text (the seventh form; the later family's looks); each row that meets fmt, with fmt's text TOLD by the authors' own Lean function (tested against real Go, not proved from fmt's source: count such statements apart). THE CARD IS WHAT COUNTS. Prove the row's statement (the work); the ties are given (YtkefjfaeaalmbaaDoorTie.lean); close each card by the builder's one call (the guide's Derived/Test/ToyasCard.lean, 'card_holds'). Laid BY PROGRAM, IN A SANDBOX (cutbox-door.mjs). By AI agents, Wed Nov 11 2026. No macro, syntax, notation, axiom, sorry.
-/
import Derived.Test.YtkefjfaeaalmbaaDoorRows
import GoSem.ClaimSeven
namespace Go.Proofs.YtkefjfaeaalmbaaDoor
namespace Rows

/-- THE TIED CARD OF 'norialaw05.TyAlike'. -/
def tyAlikeCard : Claim7 := { stood := { row := tyAlikeRow, standIns := [], harness := (true, "4ad8ddd939955def7587c1e9f46b28bc8683f5fac3e348caa5732a9a0f0c3d60"), looks := false }, kinds := [], alts := [], laidByText := true, laidKinds := [.data, .data, .data], laidTests := true, laidLooks := .later }
def TyAlikeCardSaid : Prop := Claim7.holds Tryd.pinned (.plain (OpenSpec.ofChange tyAlikeSpec)) tyAlikeCard

/-- THE TIED CARD OF 'norialaw05.TyTells'. -/
def tyTellsCard : Claim7 := { stood := { row := tyTellsRow, standIns := [], harness := (true, "4ad8ddd939955def7587c1e9f46b28bc8683f5fac3e348caa5732a9a0f0c3d60"), looks := false }, kinds := [], alts := [], laidByText := true, laidKinds := [.data, .data, .data], laidTests := true, laidLooks := .later }
def TyTellsCardSaid : Prop := Claim7.holds Tryd.pinned (.plain (OpenSpec.ofChange tyTellsSpec)) tyTellsCard

/-- THE TIED CARD OF 'norialaw05.TyEnums'. -/
def tyEnumsCard : Claim7 := { stood := { row := tyEnumsRow, standIns := [], harness := (true, "4ad8ddd939955def7587c1e9f46b28bc8683f5fac3e348caa5732a9a0f0c3d60"), looks := false }, kinds := [], alts := [], laidByText := true, laidKinds := [.data, .data, .data], laidTests := true, laidLooks := .later }
def TyEnumsCardSaid : Prop := Claim7.holds Tryd.pinned (.plain (OpenSpec.ofChange tyEnumsSpec)) tyEnumsCard

/-- THE TIED CARD OF 'norialaw05.TyOrders'. -/
def tyOrdersCard : Claim7 := { stood := { row := tyOrdersRow, standIns := [], harness := (true, "4ad8ddd939955def7587c1e9f46b28bc8683f5fac3e348caa5732a9a0f0c3d60"), looks := false }, kinds := [], alts := [], laidByText := true, laidKinds := [.data, .data, .data], laidTests := true, laidLooks := .later }
def TyOrdersCardSaid : Prop := Claim7.holds Tryd.pinned (.plain (OpenSpec.ofChange tyOrdersSpec)) tyOrdersCard

/-- THE SECOND FORM's CARD OF 'norialaw05.TyAlike'. -/
def tyAlikeUptoCard : Claim7 := { stood := { row := tyAlikeUptoRow, standIns := [], harness := (true, "4ad8ddd939955def7587c1e9f46b28bc8683f5fac3e348caa5732a9a0f0c3d60"), looks := false }, kinds := [], alts := [], laidByText := true, laidKinds := [.data, .data, .data], laidTests := true, laidLooks := .later }
def TyAlikeUptoCardSaid : Prop := Claim7.holds Tryd.pinned (.plain (OpenSpec.upto tyAlikeSpec)) tyAlikeUptoCard

/-- THE SECOND FORM's CARD OF 'norialaw05.TyTells'. -/
def tyTellsUptoCard : Claim7 := { stood := { row := tyTellsUptoRow, standIns := [], harness := (true, "4ad8ddd939955def7587c1e9f46b28bc8683f5fac3e348caa5732a9a0f0c3d60"), looks := false }, kinds := [], alts := [], laidByText := true, laidKinds := [.data, .data, .data], laidTests := true, laidLooks := .later }
def TyTellsUptoCardSaid : Prop := Claim7.holds Tryd.pinned (.plain (OpenSpec.upto tyTellsSpec)) tyTellsUptoCard

/-- THE SECOND FORM's CARD OF 'norialaw05.TyEnums'. -/
def tyEnumsUptoCard : Claim7 := { stood := { row := tyEnumsUptoRow, standIns := [], harness := (true, "4ad8ddd939955def7587c1e9f46b28bc8683f5fac3e348caa5732a9a0f0c3d60"), looks := false }, kinds := [], alts := [], laidByText := true, laidKinds := [.data, .data, .data], laidTests := true, laidLooks := .later }
def TyEnumsUptoCardSaid : Prop := Claim7.holds Tryd.pinned (.plain (OpenSpec.upto tyEnumsSpec)) tyEnumsUptoCard

/-- THE SECOND FORM's CARD OF 'norialaw05.TyOrders'. -/
def tyOrdersUptoCard : Claim7 := { stood := { row := tyOrdersUptoRow, standIns := [], harness := (true, "4ad8ddd939955def7587c1e9f46b28bc8683f5fac3e348caa5732a9a0f0c3d60"), looks := false }, kinds := [], alts := [], laidByText := true, laidKinds := [.data, .data, .data], laidTests := true, laidLooks := .later }
def TyOrdersUptoCardSaid : Prop := Claim7.holds Tryd.pinned (.plain (OpenSpec.upto tyOrdersSpec)) tyOrdersUptoCard
end Rows
end Go.Proofs.YtkefjfaeaalmbaaDoor
