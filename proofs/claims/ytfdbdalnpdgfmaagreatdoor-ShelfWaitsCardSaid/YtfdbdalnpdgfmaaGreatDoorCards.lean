/-
  DERIVED. GIVEN WITH THE SEED: THE CARDS: each row of YtfdbdalnpdgfmaaGreatDoorRows.lean that lists a variable, with what it lists TIED to the program's text (the seventh form; the later family's looks); each row that meets fmt, with fmt's text TOLD by the authors' own Lean function (tested against real Go, not proved from fmt's source: count such statements apart). THE CARD IS WHAT COUNTS. Prove the row's statement (the work); the ties are given (YtfdbdalnpdgfmaaGreatDoorTie.lean); close each card by the builder's one call (the guide's Derived/Test/ToyasCard.lean, 'card_holds'). Laid BY PROGRAM, IN A SANDBOX (cutbox-door.mjs). By AI agents, Wed Nov 11 2026. No macro, syntax, notation, axiom, sorry.
-/
import Derived.Test.YtfdbdalnpdgfmaaGreatDoorRows
import GoSem.ClaimSeven
namespace Go.Proofs.YtfdbdalnpdgfmaaGreatDoor
namespace Rows

/-- THE TIED CARD OF 'tailracelaw15.ShelfNew'. -/
def shelfNewCard : Claim7 := { stood := { row := shelfNewRow, standIns := [], harness := (true, "51229276d96c90be72fb7317663c09cd7ad58df7f03d2832eaea8e68a1291e00"), looks := true }, kinds := [], alts := [], laidByText := true, laidKinds := [.data, .data, .data, .data, .sentinel, .sentinel, .pinned], laidTests := true, laidLooks := .later }
def ShelfNewCardSaid : Prop := Claim7.holds Tryz.pinned (.plain (OpenSpec.ofChange shelfNewSpec)) shelfNewCard

/-- THE TIED CARD OF 'tailracelaw15.ShelfWaits'. -/
def shelfWaitsCard : Claim7 := { stood := { row := shelfWaitsRow, standIns := [], harness := (true, "51229276d96c90be72fb7317663c09cd7ad58df7f03d2832eaea8e68a1291e00"), looks := true }, kinds := [], alts := [], laidByText := true, laidKinds := [.data, .data, .data, .data, .sentinel, .sentinel, .pinned], laidTests := true, laidLooks := .later }
def ShelfWaitsCardSaid : Prop := Claim7.holds Tryz.pinned (.plain (OpenSpec.ofChange shelfWaitsSpec)) shelfWaitsCard

/-- THE SECOND FORM's CARD OF 'tailracelaw15.ShelfNew'. -/
def shelfNewUptoCard : Claim7 := { stood := { row := shelfNewUptoRow, standIns := [], harness := (true, "51229276d96c90be72fb7317663c09cd7ad58df7f03d2832eaea8e68a1291e00"), looks := true }, kinds := [], alts := [], laidByText := true, laidKinds := [.data, .data, .data, .data, .sentinel, .sentinel, .pinned], laidTests := true, laidLooks := .later }
def ShelfNewUptoCardSaid : Prop := Claim7.holds Tryz.pinned (.plain (OpenSpec.upto shelfNewSpec)) shelfNewUptoCard

/-- THE SECOND FORM's CARD OF 'tailracelaw15.ShelfWaits'. -/
def shelfWaitsUptoCard : Claim7 := { stood := { row := shelfWaitsUptoRow, standIns := [], harness := (true, "51229276d96c90be72fb7317663c09cd7ad58df7f03d2832eaea8e68a1291e00"), looks := true }, kinds := [], alts := [], laidByText := true, laidKinds := [.data, .data, .data, .data, .sentinel, .sentinel, .pinned], laidTests := true, laidLooks := .later }
def ShelfWaitsUptoCardSaid : Prop := Claim7.holds Tryz.pinned (.plain (OpenSpec.upto shelfWaitsSpec)) shelfWaitsUptoCard
end Rows
end Go.Proofs.YtfdbdalnpdgfmaaGreatDoor
