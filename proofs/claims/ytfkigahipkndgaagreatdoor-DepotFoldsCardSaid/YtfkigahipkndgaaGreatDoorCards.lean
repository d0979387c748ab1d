/-
  DERIVED. GIVEN WITH THE SEED: THE CARDS: each row of YtfkigahipkndgaaGreatDoorRows.lean that lists a variable, with what it lists TIED to the program's text (the seventh form; the later family's looks); each row that meets fmt, with fmt's text TOLD by the authors' own Lean function (tested against real Go, not proved from fmt's source: count such statements apart). THE CARD IS WHAT COUNTS. Prove the row's statement (the work); the ties are given (YtfkigahipkndgaaGreatDoorTie.lean); close each card by the builder's one call (the guide's Derived/Test/ToyasCard.lean, 'card_holds'). Laid BY PROGRAM, IN A SANDBOX (cutbox-door.mjs). By AI agents, Wed Nov 11 2026. No macro, syntax, notation, axiom, sorry.
-/
import Derived.Test.YtfkigahipkndgaaGreatDoorRows
import GoSem.ClaimSeven
namespace Go.Proofs.YtfkigahipkndgaaGreatDoor
namespace Rows

/-- THE TIED CARD OF 'tailracelaw24.ClientNew'. -/
def clientNewCard : Claim7 := { stood := { row := clientNewRow, standIns := [], harness := (true, "63dffcf70a319d364c6cf57286c6431ad8cc393484ea6cb0da25125f45f7756f"), looks := true }, kinds := [], alts := [], laidByText := true, laidKinds := [.data, .pinned], laidTests := true, laidLooks := .later }
def ClientNewCardSaid : Prop := Claim7.holds Tryz.pinned (.plain (OpenSpec.ofChange clientNewSpec)) clientNewCard

/-- THE TIED CARD OF 'tailracelaw29.AuditReads'. -/
def auditReadsCard : Claim7 := { stood := { row := auditReadsRow, standIns := [], harness := (true, "63dffcf70a319d364c6cf57286c6431ad8cc393484ea6cb0da25125f45f7756f"), looks := true }, kinds := [], alts := [], laidByText := true, laidKinds := [.data, .pinned], laidTests := true, laidLooks := .later }
def AuditReadsCardSaid : Prop := Claim7.holds Tryz.pinned (.plain (OpenSpec.ofChange auditReadsSpec)) auditReadsCard

/-- THE TIED CARD OF 'tailracelaw29.AuditRises'. -/
def auditRisesCard : Claim7 := { stood := { row := auditRisesRow, standIns := [], harness := (true, "63dffcf70a319d364c6cf57286c6431ad8cc393484ea6cb0da25125f45f7756f"), looks := true }, kinds := [], alts := [], laidByText := true, laidKinds := [.data, .pinned], laidTests := true, laidLooks := .later }
def AuditRisesCardSaid : Prop := Claim7.holds Tryz.pinned (.plain (OpenSpec.ofChange auditRisesSpec)) auditRisesCard

/-- THE TIED CARD OF 'tailracelaw14.DepotOnce'. -/
def depotOnceCard : Claim7 := { stood := { row := depotOnceRow, standIns := [], harness := (true, "63dffcf70a319d364c6cf57286c6431ad8cc393484ea6cb0da25125f45f7756f"), looks := true }, kinds := [], alts := [], laidByText := true, laidKinds := [.data, .pinned], laidTests := true, laidLooks := .later }
def DepotOnceCardSaid : Prop := Claim7.holds Tryz.pinned (.plain (OpenSpec.ofChange depotOnceSpec)) depotOnceCard

/-- THE TIED CARD OF 'tailracelaw14.DepotFolds'. -/
def depotFoldsCard : Claim7 := { stood := { row := depotFoldsRow, standIns := [], harness := (true, "63dffcf70a319d364c6cf57286c6431ad8cc393484ea6cb0da25125f45f7756f"), looks := true }, kinds := [], alts := [], laidByText := true, laidKinds := [.data, .pinned], laidTests := true, laidLooks := .later }
def DepotFoldsCardSaid : Prop := Claim7.holds Tryz.pinned (.plain (OpenSpec.ofChange depotFoldsSpec)) depotFoldsCard

/-- THE TIED CARD OF 'tailracelaw14.DepotReads'. -/
def depotReadsCard : Claim7 := { stood := { row := depotReadsRow, standIns := [], harness := (true, "63dffcf70a319d364c6cf57286c6431ad8cc393484ea6cb0da25125f45f7756f"), looks := true }, kinds := [], alts := [], laidByText := true, laidKinds := [.data, .pinned], laidTests := true, laidLooks := .later }
def DepotReadsCardSaid : Prop := Claim7.holds Tryz.pinned (.plain (OpenSpec.ofChange depotReadsSpec)) depotReadsCard

/-- THE TIED CARD OF 'tailracelaw14.DepotApplies'. -/
def depotAppliesCard : Claim7 := { stood := { row := depotAppliesRow, standIns := [], harness := (true, "63dffcf70a319d364c6cf57286c6431ad8cc393484ea6cb0da25125f45f7756f"), looks := true }, kinds := [], alts := [], laidByText := true, laidKinds := [.data, .pinned], laidTests := true, laidLooks := .later }
def DepotAppliesCardSaid : Prop := Claim7.holds Tryz.pinned (.plain (OpenSpec.ofChange depotAppliesSpec)) depotAppliesCard

/-- THE TIED CARD OF 'tailracelaw19.ConfGrows'. -/
def confGrowsCard : Claim7 := { stood := { row := confGrowsRow, standIns := [], harness := (true, "63dffcf70a319d364c6cf57286c6431ad8cc393484ea6cb0da25125f45f7756f"), looks := true }, kinds := [], alts := [], laidByText := true, laidKinds := [.data, .data, .data, .data, .sentinel, .sentinel, .pinned], laidTests := true, laidLooks := .later }
def ConfGrowsCardSaid : Prop := Claim7.holds Tryz.pinned (.plain (OpenSpec.ofChange confGrowsSpec)) confGrowsCard

/-- THE TIED CARD OF 'tailracelaw19.ConfTwice'. -/
def confTwiceCard : Claim7 := { stood := { row := confTwiceRow, standIns := [], harness := (true, "63dffcf70a319d364c6cf57286c6431ad8cc393484ea6cb0da25125f45f7756f"), looks := true }, kinds := [], alts := [], laidByText := true, laidKinds := [.data, .data, .data, .data, .sentinel, .sentinel, .pinned], laidTests := true, laidLooks := .later }
def ConfTwiceCardSaid : Prop := Claim7.holds Tryz.pinned (.plain (OpenSpec.ofChange confTwiceSpec)) confTwiceCard

/-- THE TIED CARD OF 'tailracelaw24.ClientOnce'. -/
def clientOnceCard : Claim7 := { stood := { row := clientOnceRow, standIns := [], harness := (true, "63dffcf70a319d364c6cf57286c6431ad8cc393484ea6cb0da25125f45f7756f"), looks := true }, kinds := [], alts := [], laidByText := true, laidKinds := [.data, .data, .data, .data, .sentinel, .sentinel, .pinned], laidTests := true, laidLooks := .later }
def ClientOnceCardSaid : Prop := Claim7.holds Tryz.pinned (.plain (OpenSpec.ofChange clientOnceSpec)) clientOnceCard

/-- THE SECOND FORM's CARD OF 'tailracelaw24.ClientNew'. -/
def clientNewUptoCard : Claim7 := { stood := { row := clientNewUptoRow, standIns := [], harness := (true, "63dffcf70a319d364c6cf57286c6431ad8cc393484ea6cb0da25125f45f7756f"), looks := true }, kinds := [], alts := [], laidByText := true, laidKinds := [.data, .pinned], laidTests := true, laidLooks := .later }
def ClientNewUptoCardSaid : Prop := Claim7.holds Tryz.pinned (.plain (OpenSpec.upto clientNewSpec)) clientNewUptoCard

/-- THE SECOND FORM's CARD OF 'tailracelaw29.AuditReads'. -/
def auditReadsUptoCard : Claim7 := { stood := { row := auditReadsUptoRow, standIns := [], harness := (true, "63dffcf70a319d364c6cf57286c6431ad8cc393484ea6cb0da25125f45f7756f"), looks := true }, kinds := [], alts := [], laidByText := true, laidKinds := [.data, .pinned], laidTests := true, laidLooks := .later }
def AuditReadsUptoCardSaid : Prop := Claim7.holds Tryz.pinned (.plain (OpenSpec.upto auditReadsSpec)) auditReadsUptoCard

/-- THE SECOND FORM's CARD OF 'tailracelaw29.AuditRises'. -/
def auditRisesUptoCard : Claim7 := { stood := { row := auditRisesUptoRow, standIns := [], harness := (true, "63dffcf70a319d364c6cf57286c6431ad8cc393484ea6cb0da25125f45f7756f"), looks := true }, kinds := [], alts := [], laidByText := true, laidKinds := [.data, .pinned], laidTests := true, laidLooks := .later }
def AuditRisesUptoCardSaid : Prop := Claim7.holds Tryz.pinned (.plain (OpenSpec.upto auditRisesSpec)) auditRisesUptoCard

/-- THE SECOND FORM's CARD OF 'tailracelaw14.DepotOnce'. -/
def depotOnceUptoCard : Claim7 := { stood := { row := depotOnceUptoRow, standIns := [], harness := (true, "63dffcf70a319d364c6cf57286c6431ad8cc393484ea6cb0da25125f45f7756f"), looks := true }, kinds := [], alts := [], laidByText := true, laidKinds := [.data, .pinned], laidTests := true, laidLooks := .later }
def DepotOnceUptoCardSaid : Prop := Claim7.holds Tryz.pinned (.plain (OpenSpec.upto depotOnceSpec)) depotOnceUptoCard

/-- THE SECOND FORM's CARD OF 'tailracelaw14.DepotFolds'. -/
def depotFoldsUptoCard : Claim7 := { stood := { row := depotFoldsUptoRow, standIns := [], harness := (true, "63dffcf70a319d364c6cf57286c6431ad8cc393484ea6cb0da25125f45f7756f"), looks := true }, kinds := [], alts := [], laidByText := true, laidKinds := [.data, .pinned], laidTests := true, laidLooks := .later }
def DepotFoldsUptoCardSaid : Prop := Claim7.holds Tryz.pinned (.plain (OpenSpec.upto depotFoldsSpec)) depotFoldsUptoCard

/-- THE SECOND FORM's CARD OF 'tailracelaw14.DepotReads'. -/
def depotReadsUptoCard : Claim7 := { stood := { row := depotReadsUptoRow, standIns := [], harness := (true, "63dffcf70a319d364c6cf57286c6431ad8cc393484ea6cb0da25125f45f7756f"), looks := true }, kinds := [], alts := [], laidByText := true, laidKinds := [.data, .pinned], laidTests := true, laidLooks := .later }
def DepotReadsUptoCardSaid : Prop := Claim7.holds Tryz.pinned (.plain (OpenSpec.upto depotReadsSpec)) depotReadsUptoCard

/-- THE SECOND FORM's CARD OF 'tailracelaw14.DepotApplies'. -/
def depotAppliesUptoCard : Claim7 := { stood := { row := depotAppliesUptoRow, standIns := [], harness := (true, "63dffcf70a319d364c6cf57286c6431ad8cc393484ea6cb0da25125f45f7756f"), looks := true }, kinds := [], alts := [], laidByText := true, laidKinds := [.data, .pinned], laidTests := true, laidLooks := .later }
def DepotAppliesUptoCardSaid : Prop := Claim7.holds Tryz.pinned (.plain (OpenSpec.upto depotAppliesSpec)) depotAppliesUptoCard

/-- THE SECOND FORM's CARD OF 'tailracelaw19.ConfGrows'. -/
def confGrowsUptoCard : Claim7 := { stood := { row := confGrowsUptoRow, standIns := [], harness := (true, "63dffcf70a319d364c6cf57286c6431ad8cc393484ea6cb0da25125f45f7756f"), looks := true }, kinds := [], alts := [], laidByText := true, laidKinds := [.data, .data, .data, .data, .sentinel, .sentinel, .pinned], laidTests := true, laidLooks := .later }
def ConfGrowsUptoCardSaid : Prop := Claim7.holds Tryz.pinned (.plain (OpenSpec.upto confGrowsSpec)) confGrowsUptoCard

/-- THE SECOND FORM's CARD OF 'tailracelaw19.ConfTwice'. -/
def confTwiceUptoCard : Claim7 := { stood := { row := confTwiceUptoRow, standIns := [], harness := (true, "63dffcf70a319d364c6cf57286c6431ad8cc393484ea6cb0da25125f45f7756f"), looks := true }, kinds := [], alts := [], laidByText := true, laidKinds := [.data, .data, .data, .data, .sentinel, .sentinel, .pinned], laidTests := true, laidLooks := .later }
def ConfTwiceUptoCardSaid : Prop := Claim7.holds Tryz.pinned (.plain (OpenSpec.upto confTwiceSpec)) confTwiceUptoCard

/-- THE SECOND FORM's CARD OF 'tailracelaw24.ClientOnce'. -/
def clientOnceUptoCard : Claim7 := { stood := { row := clientOnceUptoRow, standIns := [], harness := (true, "63dffcf70a319d364c6cf57286c6431ad8cc393484ea6cb0da25125f45f7756f"), looks := true }, kinds := [], alts := [], laidByText := true, laidKinds := [.data, .data, .data, .data, .sentinel, .sentinel, .pinned], laidTests := true, laidLooks := .later }
def ClientOnceUptoCardSaid : Prop := Claim7.holds Tryz.pinned (.plain (OpenSpec.upto clientOnceSpec)) clientOnceUptoCard
end Rows
end Go.Proofs.YtfkigahipkndgaaGreatDoor
