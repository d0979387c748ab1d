/-
  DERIVED. GIVEN WITH THE SEED: THE CARDS: each row of YtbneclkckmdkgaaGreatDoorRows.lean that lists a variable, with what it lists TIED to the program's text (the seventh form; the later family's looks); each row that meets fmt, with fmt's text TOLD by the authors' own Lean function (tested against real Go, not proved from fmt's source: count such statements apart). THE CARD IS WHAT COUNTS. Prove the row's statement (the work); the ties are given (YtbneclkckmdkgaaGreatDoorTie.lean); close each card by the builder's one call (the guide's Derived/Test/ToyasCard.lean, 'card_holds'). Laid BY PROGRAM, IN A SANDBOX (cutbox-door.mjs). By AI agents, Wed Nov 11 2026. No macro, syntax, notation, axiom, sorry.
-/
import Derived.Test.YtbneclkckmdkgaaGreatDoorRows
import GoSem.ClaimSeven
namespace Go.Proofs.YtbneclkckmdkgaaGreatDoor
namespace Rows

/-- THE TIED CARD OF 'tailracelaw19.ConfGrows'. -/
def confGrowsCard : Claim7 := { stood := { row := confGrowsRow, standIns := [], harness := (true, "ff24da3c8a62f8a4213660c2ddf6c3e046633a1b32dc6ab5651648d46f3db686"), looks := true }, kinds := [], alts := [], laidByText := true, laidKinds := [.data, .data, .data, .data, .sentinel, .sentinel, .pinned], laidTests := true, laidLooks := .later }
def ConfGrowsCardSaid : Prop := Claim7.holds Tryz.pinned (.plain (OpenSpec.ofChange confGrowsSpec)) confGrowsCard

/-- THE TIED CARD OF 'tailracelaw19.ConfTwice'. -/
def confTwiceCard : Claim7 := { stood := { row := confTwiceRow, standIns := [], harness := (true, "ff24da3c8a62f8a4213660c2ddf6c3e046633a1b32dc6ab5651648d46f3db686"), looks := true }, kinds := [], alts := [], laidByText := true, laidKinds := [.data, .data, .data, .data, .sentinel, .sentinel, .pinned], laidTests := true, laidLooks := .later }
def ConfTwiceCardSaid : Prop := Claim7.holds Tryz.pinned (.plain (OpenSpec.ofChange confTwiceSpec)) confTwiceCard

/-- THE SECOND FORM's CARD OF 'tailracelaw19.ConfGrows'. -/
def confGrowsUptoCard : Claim7 := { stood := { row := confGrowsUptoRow, standIns := [], harness := (true, "ff24da3c8a62f8a4213660c2ddf6c3e046633a1b32dc6ab5651648d46f3db686"), looks := true }, kinds := [], alts := [], laidByText := true, laidKinds := [.data, .data, .data, .data, .sentinel, .sentinel, .pinned], laidTests := true, laidLooks := .later }
def ConfGrowsUptoCardSaid : Prop := Claim7.holds Tryz.pinned (.plain (OpenSpec.upto confGrowsSpec)) confGrowsUptoCard

/-- THE SECOND FORM's CARD OF 'tailracelaw19.ConfTwice'. -/
def confTwiceUptoCard : Claim7 := { stood := { row := confTwiceUptoRow, standIns := [], harness := (true, "ff24da3c8a62f8a4213660c2ddf6c3e046633a1b32dc6ab5651648d46f3db686"), looks := true }, kinds := [], alts := [], laidByText := true, laidKinds := [.data, .data, .data, .data, .sentinel, .sentinel, .pinned], laidTests := true, laidLooks := .later }
def ConfTwiceUptoCardSaid : Prop := Claim7.holds Tryz.pinned (.plain (OpenSpec.upto confTwiceSpec)) confTwiceUptoCard
end Rows
end Go.Proofs.YtbneclkckmdkgaaGreatDoor
