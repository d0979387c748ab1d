/-
  DERIVED. GIVEN WITH THE SEED: THE CARDS: each row of YtfenjmhhggekaaaDoorRows.lean that lists a variable, with what it lists TIED to the program's text (the seventh form; the later family's looks); each row that meets fmt, with fmt's text TOLD by the authors' own Lean function (tested against real Go, not proved from fmt's source: count such statements apart). THE CARD IS WHAT COUNTS. Prove the row's statement (the work); the ties are given (YtfenjmhhggekaaaDoorTie.lean); close each card by the builder's one call (the guide's Derived/Test/ToyasCard.lean, 'card_holds'). Laid BY PROGRAM, IN A SANDBOX (cutbox-door.mjs). By AI agents, Wed Nov 11 2026. No macro, syntax, notation, axiom, sorry.
-/
import Derived.Test.YtfenjmhhggekaaaDoorRows
import GoSem.ClaimSeven
namespace Go.Proofs.YtfenjmhhggekaaaDoor
namespace Rows

/-- THE TIED CARD OF 'tailracelaw04.PaperPaths'. -/
def paperPathsCard : Claim7 := { stood := { row := paperPathsRow, standIns := [], harness := (true, "5404b089689923ab88766408d1c77fa91373666609cff18ae262266be4e66865"), looks := false }, kinds := [], alts := [], laidByText := true, laidKinds := [.data, .pinned], laidTests := true, laidLooks := .later }
def PaperPathsCardSaid : Prop := Claim7.holds Tryd.pinned (.plain (OpenSpec.ofChange paperPathsSpec)) paperPathsCard

/-- THE TIED CARD OF 'tailracelaw04.PaperOrders'. -/
def paperOrdersCard : Claim7 := { stood := { row := paperOrdersRow, standIns := [], harness := (true, "5404b089689923ab88766408d1c77fa91373666609cff18ae262266be4e66865"), looks := false }, kinds := [], alts := [], laidByText := true, laidKinds := [.data, .pinned], laidTests := true, laidLooks := .later }
def PaperOrdersCardSaid : Prop := Claim7.holds Tryd.pinned (.plain (OpenSpec.ofChange paperOrdersSpec)) paperOrdersCard

/-- THE TIED CARD OF 'tailracelaw04.PaperSets'. -/
def paperSetsCard : Claim7 := { stood := { row := paperSetsRow, standIns := [], harness := (true, "5404b089689923ab88766408d1c77fa91373666609cff18ae262266be4e66865"), looks := false }, kinds := [], alts := [], laidByText := true, laidKinds := [.data, .pinned], laidTests := true, laidLooks := .later }
def PaperSetsCardSaid : Prop := Claim7.holds Tryd.pinned (.plain (OpenSpec.ofChange paperSetsSpec)) paperSetsCard

/-- THE TIED CARD OF 'tailracelaw13.FeedReads'. -/
def feedReadsCard : Claim7 := { stood := { row := feedReadsRow, standIns := [], harness := (true, "5404b089689923ab88766408d1c77fa91373666609cff18ae262266be4e66865"), looks := false }, kinds := [], alts := [], laidByText := true, laidKinds := [.data, .pinned], laidTests := true, laidLooks := .later }
def FeedReadsCardSaid : Prop := Claim7.holds Tryd.pinned (.plain (OpenSpec.ofChange feedReadsSpec)) feedReadsCard

/-- THE TIED CARD OF 'tailracelaw04.PaperOf'. -/
def paperOfCard : Claim7 := { stood := { row := paperOfRow, standIns := [], harness := (true, "5404b089689923ab88766408d1c77fa91373666609cff18ae262266be4e66865"), looks := false }, kinds := [], alts := [], laidByText := true, laidKinds := [.data, .pinned], laidTests := true, laidLooks := .later }
def PaperOfCardSaid : Prop := Claim7.holds Tryd.pinned (.plain (OpenSpec.ofChange paperOfSpec)) paperOfCard

/-- THE TIED CARD OF 'tailracelaw13.FeedOpens'. -/
def feedOpensCard : Claim7 := { stood := { row := feedOpensRow, standIns := [], harness := (true, "5404b089689923ab88766408d1c77fa91373666609cff18ae262266be4e66865"), looks := false }, kinds := [], alts := [], laidByText := true, laidKinds := [.data, .pinned], laidTests := true, laidLooks := .later }
def FeedOpensCardSaid : Prop := Claim7.holds Tryd.pinned (.plain (OpenSpec.ofChange feedOpensSpec)) feedOpensCard

/-- THE TIED CARD OF 'tailracelaw13.FeedAdds'. -/
def feedAddsCard : Claim7 := { stood := { row := feedAddsRow, standIns := [], harness := (true, "5404b089689923ab88766408d1c77fa91373666609cff18ae262266be4e66865"), looks := false }, kinds := [], alts := [], laidByText := true, laidKinds := [.data, .pinned], laidTests := true, laidLooks := .later }
def FeedAddsCardSaid : Prop := Claim7.holds Tryd.pinned (.plain (OpenSpec.ofChange feedAddsSpec)) feedAddsCard

/-- THE TIED CARD OF 'tailracelaw04.PaperCells'. -/
def paperCellsCard : Claim7 := { stood := { row := paperCellsRow, standIns := [], harness := (true, "5404b089689923ab88766408d1c77fa91373666609cff18ae262266be4e66865"), looks := false }, kinds := [], alts := [], laidByText := true, laidKinds := [.data, .pinned], laidTests := true, laidLooks := .later }
def PaperCellsCardSaid : Prop := Claim7.holds Tryd.pinned (.plain (OpenSpec.ofChange paperCellsSpec)) paperCellsCard

/-- THE TIED CARD OF 'tailracelaw13.FeedFlows'. -/
def feedFlowsCard : Claim7 := { stood := { row := feedFlowsRow, standIns := [], harness := (true, "5404b089689923ab88766408d1c77fa91373666609cff18ae262266be4e66865"), looks := false }, kinds := [], alts := [], laidByText := true, laidKinds := [.data, .pinned], laidTests := true, laidLooks := .later }
def FeedFlowsCardSaid : Prop := Claim7.holds Tryd.pinned (.plain (OpenSpec.ofChange feedFlowsSpec)) feedFlowsCard

/-- THE TIED CARD OF 'tailracelaw13.FeedSubs'. -/
def feedSubsCard : Claim7 := { stood := { row := feedSubsRow, standIns := [], harness := (true, "5404b089689923ab88766408d1c77fa91373666609cff18ae262266be4e66865"), looks := false }, kinds := [], alts := [], laidByText := true, laidKinds := [.data, .pinned], laidTests := true, laidLooks := .later }
def FeedSubsCardSaid : Prop := Claim7.holds Tryd.pinned (.plain (OpenSpec.ofChange feedSubsSpec)) feedSubsCard

/-- THE SECOND FORM's CARD OF 'tailracelaw04.PaperPaths'. -/
def paperPathsUptoCard : Claim7 := { stood := { row := paperPathsUptoRow, standIns := [], harness := (true, "5404b089689923ab88766408d1c77fa91373666609cff18ae262266be4e66865"), looks := false }, kinds := [], alts := [], laidByText := true, laidKinds := [.data, .pinned], laidTests := true, laidLooks := .later }
def PaperPathsUptoCardSaid : Prop := Claim7.holds Tryd.pinned (.plain (OpenSpec.upto paperPathsSpec)) paperPathsUptoCard

/-- THE SECOND FORM's CARD OF 'tailracelaw04.PaperOrders'. -/
def paperOrdersUptoCard : Claim7 := { stood := { row := paperOrdersUptoRow, standIns := [], harness := (true, "5404b089689923ab88766408d1c77fa91373666609cff18ae262266be4e66865"), looks := false }, kinds := [], alts := [], laidByText := true, laidKinds := [.data, .pinned], laidTests := true, laidLooks := .later }
def PaperOrdersUptoCardSaid : Prop := Claim7.holds Tryd.pinned (.plain (OpenSpec.upto paperOrdersSpec)) paperOrdersUptoCard

/-- THE SECOND FORM's CARD OF 'tailracelaw04.PaperSets'. -/
def paperSetsUptoCard : Claim7 := { stood := { row := paperSetsUptoRow, standIns := [], harness := (true, "5404b089689923ab88766408d1c77fa91373666609cff18ae262266be4e66865"), looks := false }, kinds := [], alts := [], laidByText := true, laidKinds := [.data, .pinned], laidTests := true, laidLooks := .later }
def PaperSetsUptoCardSaid : Prop := Claim7.holds Tryd.pinned (.plain (OpenSpec.upto paperSetsSpec)) paperSetsUptoCard

/-- THE SECOND FORM's CARD OF 'tailracelaw13.FeedReads'. -/
def feedReadsUptoCard : Claim7 := { stood := { row := feedReadsUptoRow, standIns := [], harness := (true, "5404b089689923ab88766408d1c77fa91373666609cff18ae262266be4e66865"), looks := false }, kinds := [], alts := [], laidByText := true, laidKinds := [.data, .pinned], laidTests := true, laidLooks := .later }
def FeedReadsUptoCardSaid : Prop := Claim7.holds Tryd.pinned (.plain (OpenSpec.upto feedReadsSpec)) feedReadsUptoCard

/-- THE SECOND FORM's CARD OF 'tailracelaw04.PaperOf'. -/
def paperOfUptoCard : Claim7 := { stood := { row := paperOfUptoRow, standIns := [], harness := (true, "5404b089689923ab88766408d1c77fa91373666609cff18ae262266be4e66865"), looks := false }, kinds := [], alts := [], laidByText := true, laidKinds := [.data, .pinned], laidTests := true, laidLooks := .later }
def PaperOfUptoCardSaid : Prop := Claim7.holds Tryd.pinned (.plain (OpenSpec.upto paperOfSpec)) paperOfUptoCard

/-- THE SECOND FORM's CARD OF 'tailracelaw13.FeedOpens'. -/
def feedOpensUptoCard : Claim7 := { stood := { row := feedOpensUptoRow, standIns := [], harness := (true, "5404b089689923ab88766408d1c77fa91373666609cff18ae262266be4e66865"), looks := false }, kinds := [], alts := [], laidByText := true, laidKinds := [.data, .pinned], laidTests := true, laidLooks := .later }
def FeedOpensUptoCardSaid : Prop := Claim7.holds Tryd.pinned (.plain (OpenSpec.upto feedOpensSpec)) feedOpensUptoCard

/-- THE SECOND FORM's CARD OF 'tailracelaw13.FeedAdds'. -/
def feedAddsUptoCard : Claim7 := { stood := { row := feedAddsUptoRow, standIns := [], harness := (true, "5404b089689923ab88766408d1c77fa91373666609cff18ae262266be4e66865"), looks := false }, kinds := [], alts := [], laidByText := true, laidKinds := [.data, .pinned], laidTests := true, laidLooks := .later }
def FeedAddsUptoCardSaid : Prop := Claim7.holds Tryd.pinned (.plain (OpenSpec.upto feedAddsSpec)) feedAddsUptoCard

/-- THE SECOND FORM's CARD OF 'tailracelaw04.PaperCells'. -/
def paperCellsUptoCard : Claim7 := { stood := { row := paperCellsUptoRow, standIns := [], harness := (true, "5404b089689923ab88766408d1c77fa91373666609cff18ae262266be4e66865"), looks := false }, kinds := [], alts := [], laidByText := true, laidKinds := [.data, .pinned], laidTests := true, laidLooks := .later }
def PaperCellsUptoCardSaid : Prop := Claim7.holds Tryd.pinned (.plain (OpenSpec.upto paperCellsSpec)) paperCellsUptoCard

/-- THE SECOND FORM's CARD OF 'tailracelaw13.FeedFlows'. -/
def feedFlowsUptoCard : Claim7 := { stood := { row := feedFlowsUptoRow, standIns := [], harness := (true, "5404b089689923ab88766408d1c77fa91373666609cff18ae262266be4e66865"), looks := false }, kinds := [], alts := [], laidByText := true, laidKinds := [.data, .pinned], laidTests := true, laidLooks := .later }
def FeedFlowsUptoCardSaid : Prop := Claim7.holds Tryd.pinned (.plain (OpenSpec.upto feedFlowsSpec)) feedFlowsUptoCard

/-- THE SECOND FORM's CARD OF 'tailracelaw13.FeedSubs'. -/
def feedSubsUptoCard : Claim7 := { stood := { row := feedSubsUptoRow, standIns := [], harness := (true, "5404b089689923ab88766408d1c77fa91373666609cff18ae262266be4e66865"), looks := false }, kinds := [], alts := [], laidByText := true, laidKinds := [.data, .pinned], laidTests := true, laidLooks := .later }
def FeedSubsUptoCardSaid : Prop := Claim7.holds Tryd.pinned (.plain (OpenSpec.upto feedSubsSpec)) feedSubsUptoCard
end Rows
end Go.Proofs.YtfenjmhhggekaaaDoor
