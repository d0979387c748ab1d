/-
  DERIVED. GIVEN WITH THE SEED: THE CARDS: each row of YtdbpdcnpolaojaaGreatDoorRows.lean that lists a variable, with what it lists TIED to the program's text (the seventh form; the later family's looks); each row that meets fmt, with fmt's text TOLD by the authors' own Lean function (tested against real Go, not proved from fmt's source: count such statements apart). THE CARD IS WHAT COUNTS. Prove the row's statement (the work); the ties are given (YtdbpdcnpolaojaaGreatDoorTie.lean); close each card by the builder's one call (the guide's Derived/Test/ToyasCard.lean, 'card_holds'). Laid BY PROGRAM, IN A SANDBOX (cutbox-door.mjs). By AI agents, Wed Nov 11 2026. No macro, syntax, notation, axiom, sorry.
-/
import Derived.Test.YtdbpdcnpolaojaaGreatDoorRows
import GoSem.ClaimSeven
namespace Go.Proofs.YtdbpdcnpolaojaaGreatDoor
namespace Rows

/-- THE TIED CARD OF 'tailracelaw16.WireRequests'. -/
def wireRequestsCard : Claim7 := { stood := { row := wireRequestsRow, standIns := [], harness := (true, "4367c687ef63f33857f485b736243a4dc384f39228a8852d26746df48dabb849"), looks := false }, kinds := [], alts := [], laidByText := true, laidKinds := [.data, .pinned], laidTests := true, laidLooks := .later }
def WireRequestsCardSaid : Prop := Claim7.holds Tryz.pinned (.plain (OpenSpec.ofChange wireRequestsSpec)) wireRequestsCard

/-- THE TIED CARD OF 'tailracelaw16.WireSame'. -/
def wireSameCard : Claim7 := { stood := { row := wireSameRow, standIns := [], harness := (true, "4367c687ef63f33857f485b736243a4dc384f39228a8852d26746df48dabb849"), looks := false }, kinds := [], alts := [], laidByText := true, laidKinds := [.data, .pinned], laidTests := true, laidLooks := .later }
def WireSameCardSaid : Prop := Claim7.holds Tryz.pinned (.plain (OpenSpec.ofChange wireSameSpec)) wireSameCard

/-- THE TIED CARD OF 'tailracelaw16.WireReads'. -/
def wireReadsCard : Claim7 := { stood := { row := wireReadsRow, standIns := [], harness := (true, "4367c687ef63f33857f485b736243a4dc384f39228a8852d26746df48dabb849"), looks := false }, kinds := [], alts := [], laidByText := true, laidKinds := [.data, .pinned], laidTests := true, laidLooks := .later }
def WireReadsCardSaid : Prop := Claim7.holds Tryz.pinned (.plain (OpenSpec.ofChange wireReadsSpec)) wireReadsCard

/-- THE TIED CARD OF 'tailracelaw12.ShopApplies'. -/
def shopAppliesCard : Claim7 := { stood := { row := shopAppliesRow, standIns := [], harness := (true, "4367c687ef63f33857f485b736243a4dc384f39228a8852d26746df48dabb849"), looks := false }, kinds := [], alts := [], laidByText := true, laidKinds := [.data, .pinned], laidTests := true, laidLooks := .later }
def ShopAppliesCardSaid : Prop := Claim7.holds Tryz.pinned (.plain (OpenSpec.ofChange shopAppliesSpec)) shopAppliesCard

/-- THE TIED CARD OF 'tailracelaw12.ShopSwaps'. -/
def shopSwapsCard : Claim7 := { stood := { row := shopSwapsRow, standIns := [], harness := (true, "4367c687ef63f33857f485b736243a4dc384f39228a8852d26746df48dabb849"), looks := false }, kinds := [], alts := [], laidByText := true, laidKinds := [.data, .pinned], laidTests := true, laidLooks := .later }
def ShopSwapsCardSaid : Prop := Claim7.holds Tryz.pinned (.plain (OpenSpec.ofChange shopSwapsSpec)) shopSwapsCard

/-- THE TIED CARD OF 'tailracelaw12.ShopSame'. -/
def shopSameCard : Claim7 := { stood := { row := shopSameRow, standIns := [], harness := (true, "4367c687ef63f33857f485b736243a4dc384f39228a8852d26746df48dabb849"), looks := false }, kinds := [], alts := [], laidByText := true, laidKinds := [.data, .pinned], laidTests := true, laidLooks := .later }
def ShopSameCardSaid : Prop := Claim7.holds Tryz.pinned (.plain (OpenSpec.ofChange shopSameSpec)) shopSameCard

/-- THE TIED CARD OF 'tailracelaw16.WireSpoils'. -/
def wireSpoilsCard : Claim7 := { stood := { row := wireSpoilsRow, standIns := [], harness := (true, "4367c687ef63f33857f485b736243a4dc384f39228a8852d26746df48dabb849"), looks := false }, kinds := [], alts := [], laidByText := true, laidKinds := [.data, .pinned], laidTests := true, laidLooks := .later }
def WireSpoilsCardSaid : Prop := Claim7.holds Tryz.pinned (.plain (OpenSpec.ofChange wireSpoilsSpec)) wireSpoilsCard

/-- THE TIED CARD OF 'tailracelaw16.WireMsgs'. -/
def wireMsgsCard : Claim7 := { stood := { row := wireMsgsRow, standIns := [], harness := (true, "4367c687ef63f33857f485b736243a4dc384f39228a8852d26746df48dabb849"), looks := false }, kinds := [], alts := [], laidByText := true, laidKinds := [.data, .pinned], laidTests := true, laidLooks := .later }
def WireMsgsCardSaid : Prop := Claim7.holds Tryz.pinned (.plain (OpenSpec.ofChange wireMsgsSpec)) wireMsgsCard

/-- THE SECOND FORM's CARD OF 'tailracelaw16.WireRequests'. -/
def wireRequestsUptoCard : Claim7 := { stood := { row := wireRequestsUptoRow, standIns := [], harness := (true, "4367c687ef63f33857f485b736243a4dc384f39228a8852d26746df48dabb849"), looks := false }, kinds := [], alts := [], laidByText := true, laidKinds := [.data, .pinned], laidTests := true, laidLooks := .later }
def WireRequestsUptoCardSaid : Prop := Claim7.holds Tryz.pinned (.plain (OpenSpec.upto wireRequestsSpec)) wireRequestsUptoCard

/-- THE SECOND FORM's CARD OF 'tailracelaw16.WireSame'. -/
def wireSameUptoCard : Claim7 := { stood := { row := wireSameUptoRow, standIns := [], harness := (true, "4367c687ef63f33857f485b736243a4dc384f39228a8852d26746df48dabb849"), looks := false }, kinds := [], alts := [], laidByText := true, laidKinds := [.data, .pinned], laidTests := true, laidLooks := .later }
def WireSameUptoCardSaid : Prop := Claim7.holds Tryz.pinned (.plain (OpenSpec.upto wireSameSpec)) wireSameUptoCard

/-- THE SECOND FORM's CARD OF 'tailracelaw16.WireReads'. -/
def wireReadsUptoCard : Claim7 := { stood := { row := wireReadsUptoRow, standIns := [], harness := (true, "4367c687ef63f33857f485b736243a4dc384f39228a8852d26746df48dabb849"), looks := false }, kinds := [], alts := [], laidByText := true, laidKinds := [.data, .pinned], laidTests := true, laidLooks := .later }
def WireReadsUptoCardSaid : Prop := Claim7.holds Tryz.pinned (.plain (OpenSpec.upto wireReadsSpec)) wireReadsUptoCard

/-- THE SECOND FORM's CARD OF 'tailracelaw12.ShopApplies'. -/
def shopAppliesUptoCard : Claim7 := { stood := { row := shopAppliesUptoRow, standIns := [], harness := (true, "4367c687ef63f33857f485b736243a4dc384f39228a8852d26746df48dabb849"), looks := false }, kinds := [], alts := [], laidByText := true, laidKinds := [.data, .pinned], laidTests := true, laidLooks := .later }
def ShopAppliesUptoCardSaid : Prop := Claim7.holds Tryz.pinned (.plain (OpenSpec.upto shopAppliesSpec)) shopAppliesUptoCard

/-- THE SECOND FORM's CARD OF 'tailracelaw12.ShopSwaps'. -/
def shopSwapsUptoCard : Claim7 := { stood := { row := shopSwapsUptoRow, standIns := [], harness := (true, "4367c687ef63f33857f485b736243a4dc384f39228a8852d26746df48dabb849"), looks := false }, kinds := [], alts := [], laidByText := true, laidKinds := [.data, .pinned], laidTests := true, laidLooks := .later }
def ShopSwapsUptoCardSaid : Prop := Claim7.holds Tryz.pinned (.plain (OpenSpec.upto shopSwapsSpec)) shopSwapsUptoCard

/-- THE SECOND FORM's CARD OF 'tailracelaw12.ShopSame'. -/
def shopSameUptoCard : Claim7 := { stood := { row := shopSameUptoRow, standIns := [], harness := (true, "4367c687ef63f33857f485b736243a4dc384f39228a8852d26746df48dabb849"), looks := false }, kinds := [], alts := [], laidByText := true, laidKinds := [.data, .pinned], laidTests := true, laidLooks := .later }
def ShopSameUptoCardSaid : Prop := Claim7.holds Tryz.pinned (.plain (OpenSpec.upto shopSameSpec)) shopSameUptoCard

/-- THE SECOND FORM's CARD OF 'tailracelaw16.WireSpoils'. -/
def wireSpoilsUptoCard : Claim7 := { stood := { row := wireSpoilsUptoRow, standIns := [], harness := (true, "4367c687ef63f33857f485b736243a4dc384f39228a8852d26746df48dabb849"), looks := false }, kinds := [], alts := [], laidByText := true, laidKinds := [.data, .pinned], laidTests := true, laidLooks := .later }
def WireSpoilsUptoCardSaid : Prop := Claim7.holds Tryz.pinned (.plain (OpenSpec.upto wireSpoilsSpec)) wireSpoilsUptoCard

/-- THE SECOND FORM's CARD OF 'tailracelaw16.WireMsgs'. -/
def wireMsgsUptoCard : Claim7 := { stood := { row := wireMsgsUptoRow, standIns := [], harness := (true, "4367c687ef63f33857f485b736243a4dc384f39228a8852d26746df48dabb849"), looks := false }, kinds := [], alts := [], laidByText := true, laidKinds := [.data, .pinned], laidTests := true, laidLooks := .later }
def WireMsgsUptoCardSaid : Prop := Claim7.holds Tryz.pinned (.plain (OpenSpec.upto wireMsgsSpec)) wireMsgsUptoCard
end Rows
end Go.Proofs.YtdbpdcnpolaojaaGreatDoor
