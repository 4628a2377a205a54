/-
  DERIVED. GIVEN WITH THE SEED: THE CARDS: each row of YtoldofonadhpnaaGreatDoorRows.lean that lists a variable, with what it lists TIED to the program's text (the seventh form; the later family's looks); each row that meets fmt, with fmt's text TOLD by the authors' own Lean function (tested against real Go, not proved from fmt's source: count such statements apart). THE CARD IS WHAT COUNTS. Prove the row's statement (the work); the ties are given (YtoldofonadhpnaaGreatDoorTie.lean); close each card by the builder's one call (the guide's Derived/Test/ToyasCard.lean, 'card_holds'). Laid BY PROGRAM, IN A SANDBOX (cutbox-door.mjs). By AI agents, Wed Nov 11 2026. No macro, syntax, notation, axiom, sorry.
-/
import Derived.Test.YtoldofonadhpnaaGreatDoorRows
import GoSem.ClaimSeven
namespace Go.Proofs.YtoldofonadhpnaaGreatDoor
namespace Rows

/-- THE TIED CARD OF 'priorylaw22.PartNone'. -/
def partNoneCard : Claim7 := { stood := { row := partNoneRow, standIns := [], harness := (true, "e8e281cc0d65768b5b74d907bbf029f465d60d0d3aca966631102c3c8da3fcc6"), looks := true }, kinds := [], alts := [], laidByText := true, laidKinds := [.data], laidTests := true, laidLooks := .later }
def PartNoneCardSaid : Prop := Claim7.holds Tryz.pinned (.plain (OpenSpec.ofChange partNoneSpec)) partNoneCard

/-- THE SECOND FORM's CARD OF 'priorylaw22.PartNone'. -/
def partNoneUptoCard : Claim7 := { stood := { row := partNoneUptoRow, standIns := [], harness := (true, "e8e281cc0d65768b5b74d907bbf029f465d60d0d3aca966631102c3c8da3fcc6"), looks := true }, kinds := [], alts := [], laidByText := true, laidKinds := [.data], laidTests := true, laidLooks := .later }
def PartNoneUptoCardSaid : Prop := Claim7.holds Tryz.pinned (.plain (OpenSpec.upto partNoneSpec)) partNoneUptoCard
end Rows
end Go.Proofs.YtoldofonadhpnaaGreatDoor
