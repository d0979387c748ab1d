/-
  DERIVED. GIVEN WITH THE SEED: THE CARDS: each row of YtjlefaabcalkkaaGreatDoorRows.lean that lists a variable, with what it lists TIED to the program's text (the seventh form; the later family's looks); each row that meets fmt, with fmt's text TOLD by the authors' own Lean function (tested against real Go, not proved from fmt's source: count such statements apart). THE CARD IS WHAT COUNTS. Prove the row's statement (the work); the ties are given (YtjlefaabcalkkaaGreatDoorTie.lean); close each card by the builder's one call (the guide's Derived/Test/ToyasCard.lean, 'card_holds'). Laid BY PROGRAM, IN A SANDBOX (cutbox-door.mjs). By AI agents, Wed Nov 11 2026. No macro, syntax, notation, axiom, sorry.
-/
import Derived.Test.YtjlefaabcalkkaaGreatDoorRows
import GoSem.ClaimSeven
namespace Go.Proofs.YtjlefaabcalkkaaGreatDoor
namespace Rows

/-- THE TIED CARD OF 'tailracelaw11.IndexBuilds'. -/
def indexBuildsCard : Claim7 := { stood := { row := indexBuildsRow, standIns := [], harness := (true, "eaeed87284f3790ec3c7b07be34d252360ef87959b0f5788a46df7b221bbfe0b"), looks := true }, kinds := [], alts := [], laidByText := true, laidKinds := [.data, .data, .data, .data, .sentinel, .sentinel, .pinned], laidTests := true, laidLooks := .later }
def IndexBuildsCardSaid : Prop := Claim7.holds Tryz.pinned (.plain (OpenSpec.ofChange indexBuildsSpec)) indexBuildsCard

/-- THE TIED CARD OF 'tailracelaw11.IndexFinds'. -/
def indexFindsCard : Claim7 := { stood := { row := indexFindsRow, standIns := [], harness := (true, "eaeed87284f3790ec3c7b07be34d252360ef87959b0f5788a46df7b221bbfe0b"), looks := true }, kinds := [], alts := [], laidByText := true, laidKinds := [.data, .data, .data, .data, .sentinel, .sentinel, .pinned], laidTests := true, laidLooks := .later }
def IndexFindsCardSaid : Prop := Claim7.holds Tryz.pinned (.plain (OpenSpec.ofChange indexFindsSpec)) indexFindsCard

/-- THE TIED CARD OF 'tailracelaw11.IndexUpdates'. -/
def indexUpdatesCard : Claim7 := { stood := { row := indexUpdatesRow, standIns := [], harness := (true, "eaeed87284f3790ec3c7b07be34d252360ef87959b0f5788a46df7b221bbfe0b"), looks := true }, kinds := [], alts := [], laidByText := true, laidKinds := [.data, .data, .data, .data, .sentinel, .sentinel, .pinned], laidTests := true, laidLooks := .later }
def IndexUpdatesCardSaid : Prop := Claim7.holds Tryz.pinned (.plain (OpenSpec.ofChange indexUpdatesSpec)) indexUpdatesCard

/-- THE TIED CARD OF 'tailracelaw11.IndexFollows'. -/
def indexFollowsCard : Claim7 := { stood := { row := indexFollowsRow, standIns := [], harness := (true, "eaeed87284f3790ec3c7b07be34d252360ef87959b0f5788a46df7b221bbfe0b"), looks := true }, kinds := [], alts := [], laidByText := true, laidKinds := [.data, .data, .data, .data, .sentinel, .sentinel, .pinned], laidTests := true, laidLooks := .later }
def IndexFollowsCardSaid : Prop := Claim7.holds Tryz.pinned (.plain (OpenSpec.ofChange indexFollowsSpec)) indexFollowsCard

/-- THE TIED CARD OF 'tailracelaw11.IndexTwice'. -/
def indexTwiceCard : Claim7 := { stood := { row := indexTwiceRow, standIns := [], harness := (true, "eaeed87284f3790ec3c7b07be34d252360ef87959b0f5788a46df7b221bbfe0b"), looks := true }, kinds := [], alts := [], laidByText := true, laidKinds := [.data, .data, .data, .data, .sentinel, .sentinel, .pinned], laidTests := true, laidLooks := .later }
def IndexTwiceCardSaid : Prop := Claim7.holds Tryz.pinned (.plain (OpenSpec.ofChange indexTwiceSpec)) indexTwiceCard

/-- THE TIED CARD OF 'tailracelaw15.ShelfTrue'. -/
def shelfTrueCard : Claim7 := { stood := { row := shelfTrueRow, standIns := [], harness := (true, "eaeed87284f3790ec3c7b07be34d252360ef87959b0f5788a46df7b221bbfe0b"), looks := true }, kinds := [], alts := [], laidByText := true, laidKinds := [.data, .data, .data, .data, .sentinel, .sentinel, .pinned], laidTests := true, laidLooks := .later }
def ShelfTrueCardSaid : Prop := Claim7.holds Tryz.pinned (.plain (OpenSpec.ofChange shelfTrueSpec)) shelfTrueCard

/-- THE SECOND FORM's CARD OF 'tailracelaw11.IndexBuilds'. -/
def indexBuildsUptoCard : Claim7 := { stood := { row := indexBuildsUptoRow, standIns := [], harness := (true, "eaeed87284f3790ec3c7b07be34d252360ef87959b0f5788a46df7b221bbfe0b"), looks := true }, kinds := [], alts := [], laidByText := true, laidKinds := [.data, .data, .data, .data, .sentinel, .sentinel, .pinned], laidTests := true, laidLooks := .later }
def IndexBuildsUptoCardSaid : Prop := Claim7.holds Tryz.pinned (.plain (OpenSpec.upto indexBuildsSpec)) indexBuildsUptoCard

/-- THE SECOND FORM's CARD OF 'tailracelaw11.IndexFinds'. -/
def indexFindsUptoCard : Claim7 := { stood := { row := indexFindsUptoRow, standIns := [], harness := (true, "eaeed87284f3790ec3c7b07be34d252360ef87959b0f5788a46df7b221bbfe0b"), looks := true }, kinds := [], alts := [], laidByText := true, laidKinds := [.data, .data, .data, .data, .sentinel, .sentinel, .pinned], laidTests := true, laidLooks := .later }
def IndexFindsUptoCardSaid : Prop := Claim7.holds Tryz.pinned (.plain (OpenSpec.upto indexFindsSpec)) indexFindsUptoCard

/-- THE SECOND FORM's CARD OF 'tailracelaw11.IndexUpdates'. -/
def indexUpdatesUptoCard : Claim7 := { stood := { row := indexUpdatesUptoRow, standIns := [], harness := (true, "eaeed87284f3790ec3c7b07be34d252360ef87959b0f5788a46df7b221bbfe0b"), looks := true }, kinds := [], alts := [], laidByText := true, laidKinds := [.data, .data, .data, .data, .sentinel, .sentinel, .pinned], laidTests := true, laidLooks := .later }
def IndexUpdatesUptoCardSaid : Prop := Claim7.holds Tryz.pinned (.plain (OpenSpec.upto indexUpdatesSpec)) indexUpdatesUptoCard

/-- THE SECOND FORM's CARD OF 'tailracelaw11.IndexFollows'. -/
def indexFollowsUptoCard : Claim7 := { stood := { row := indexFollowsUptoRow, standIns := [], harness := (true, "eaeed87284f3790ec3c7b07be34d252360ef87959b0f5788a46df7b221bbfe0b"), looks := true }, kinds := [], alts := [], laidByText := true, laidKinds := [.data, .data, .data, .data, .sentinel, .sentinel, .pinned], laidTests := true, laidLooks := .later }
def IndexFollowsUptoCardSaid : Prop := Claim7.holds Tryz.pinned (.plain (OpenSpec.upto indexFollowsSpec)) indexFollowsUptoCard

/-- THE SECOND FORM's CARD OF 'tailracelaw11.IndexTwice'. -/
def indexTwiceUptoCard : Claim7 := { stood := { row := indexTwiceUptoRow, standIns := [], harness := (true, "eaeed87284f3790ec3c7b07be34d252360ef87959b0f5788a46df7b221bbfe0b"), looks := true }, kinds := [], alts := [], laidByText := true, laidKinds := [.data, .data, .data, .data, .sentinel, .sentinel, .pinned], laidTests := true, laidLooks := .later }
def IndexTwiceUptoCardSaid : Prop := Claim7.holds Tryz.pinned (.plain (OpenSpec.upto indexTwiceSpec)) indexTwiceUptoCard

/-- THE SECOND FORM's CARD OF 'tailracelaw15.ShelfTrue'. -/
def shelfTrueUptoCard : Claim7 := { stood := { row := shelfTrueUptoRow, standIns := [], harness := (true, "eaeed87284f3790ec3c7b07be34d252360ef87959b0f5788a46df7b221bbfe0b"), looks := true }, kinds := [], alts := [], laidByText := true, laidKinds := [.data, .data, .data, .data, .sentinel, .sentinel, .pinned], laidTests := true, laidLooks := .later }
def ShelfTrueUptoCardSaid : Prop := Claim7.holds Tryz.pinned (.plain (OpenSpec.upto shelfTrueSpec)) shelfTrueUptoCard
end Rows
end Go.Proofs.YtjlefaabcalkkaaGreatDoor
