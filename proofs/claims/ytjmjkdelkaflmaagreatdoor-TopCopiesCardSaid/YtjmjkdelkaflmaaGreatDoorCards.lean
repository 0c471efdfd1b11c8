/-
  DERIVED. GIVEN WITH THE SEED: THE CARDS: each row of YtjmjkdelkaflmaaGreatDoorRows.lean that lists a variable, with what it lists TIED to the program's text (the seventh form; the later family's looks); each row that meets fmt, with fmt's text TOLD by the authors' own Lean function (tested against real Go, not proved from fmt's source: count such statements apart). THE CARD IS WHAT COUNTS. Prove the row's statement (the work); the ties are given (YtjmjkdelkaflmaaGreatDoorTie.lean); close each card by the builder's one call (the guide's Derived/Test/ToyasCard.lean, 'card_holds'). Laid BY PROGRAM, IN A SANDBOX (cutbox-door.mjs). By AI agents, Wed Nov 11 2026. No macro, syntax, notation, axiom, sorry.
-/
import Derived.Test.YtjmjkdelkaflmaaGreatDoorRows
import GoSem.ClaimSeven
namespace Go.Proofs.YtjmjkdelkaflmaaGreatDoor
namespace Rows

/-- THE TIED CARD OF 'pallettop.TopDurable'. -/
def topDurableCard : Claim7 := { stood := { row := topDurableRow, standIns := [], harness := (true, "3a800d147f09f4c8310ae6e14f42bdb97ea208f0c6819d52442daf7416ce7881"), looks := true }, kinds := [], alts := [], laidByText := true, laidKinds := [.data, .pinned], laidTests := true, laidLooks := .later }
def TopDurableCardSaid : Prop := Claim7.holds Tryz.pinned (.plain (OpenSpec.ofChange topDurableSpec)) topDurableCard

/-- THE TIED CARD OF 'pallettop.TopCopies'. -/
def topCopiesCard : Claim7 := { stood := { row := topCopiesRow, standIns := [], harness := (true, "3a800d147f09f4c8310ae6e14f42bdb97ea208f0c6819d52442daf7416ce7881"), looks := true }, kinds := [], alts := [], laidByText := true, laidKinds := [.data, .pinned], laidTests := true, laidLooks := .later }
def TopCopiesCardSaid : Prop := Claim7.holds Tryz.pinned (.plain (OpenSpec.ofChange topCopiesSpec)) topCopiesCard

/-- THE SECOND FORM's CARD OF 'pallettop.TopDurable'. -/
def topDurableUptoCard : Claim7 := { stood := { row := topDurableUptoRow, standIns := [], harness := (true, "3a800d147f09f4c8310ae6e14f42bdb97ea208f0c6819d52442daf7416ce7881"), looks := true }, kinds := [], alts := [], laidByText := true, laidKinds := [.data, .pinned], laidTests := true, laidLooks := .later }
def TopDurableUptoCardSaid : Prop := Claim7.holds Tryz.pinned (.plain (OpenSpec.upto topDurableSpec)) topDurableUptoCard

/-- THE SECOND FORM's CARD OF 'pallettop.TopCopies'. -/
def topCopiesUptoCard : Claim7 := { stood := { row := topCopiesUptoRow, standIns := [], harness := (true, "3a800d147f09f4c8310ae6e14f42bdb97ea208f0c6819d52442daf7416ce7881"), looks := true }, kinds := [], alts := [], laidByText := true, laidKinds := [.data, .pinned], laidTests := true, laidLooks := .later }
def TopCopiesUptoCardSaid : Prop := Claim7.holds Tryz.pinned (.plain (OpenSpec.upto topCopiesSpec)) topCopiesUptoCard
end Rows
end Go.Proofs.YtjmjkdelkaflmaaGreatDoor
