/-
  DERIVED. GIVEN WITH THE SEED: THE CARDS: each row of YthaaoongjcmleaaGreatDoorRows.lean that lists a variable, with what it lists TIED to the program's text (the seventh form; the later family's looks); each row that meets fmt, with fmt's text TOLD by the authors' own Lean function (tested against real Go, not proved from fmt's source: count such statements apart). THE CARD IS WHAT COUNTS. Prove the row's statement (the work); the ties are given (YthaaoongjcmleaaGreatDoorTie.lean); close each card by the builder's one call (the guide's Derived/Test/ToyasCard.lean, 'card_holds'). Laid BY PROGRAM, IN A SANDBOX (cutbox-door.mjs). By AI agents, Wed Nov 11 2026. No macro, syntax, notation, axiom, sorry.
-/
import Derived.Test.YthaaoongjcmleaaGreatDoorRows
import GoSem.ClaimSeven
namespace Go.Proofs.YthaaoongjcmleaaGreatDoor
namespace Rows

/-- THE TIED CARD OF 'tailracelaw29.AuditReads'. -/
def auditReadsCard : Claim7 := { stood := { row := auditReadsRow, standIns := [], harness := (true, "0adabc260369cd5399444971a535c397eb0debcabd29ae19def4351431963fc9"), looks := true }, kinds := [], alts := [], laidByText := true, laidKinds := [.data, .pinned], laidTests := true, laidLooks := .later }
def AuditReadsCardSaid : Prop := Claim7.holds Tryz.pinned (.plain (OpenSpec.ofChange auditReadsSpec)) auditReadsCard

/-- THE TIED CARD OF 'tailracelaw29.AuditRises'. -/
def auditRisesCard : Claim7 := { stood := { row := auditRisesRow, standIns := [], harness := (true, "0adabc260369cd5399444971a535c397eb0debcabd29ae19def4351431963fc9"), looks := true }, kinds := [], alts := [], laidByText := true, laidKinds := [.data, .pinned], laidTests := true, laidLooks := .later }
def AuditRisesCardSaid : Prop := Claim7.holds Tryz.pinned (.plain (OpenSpec.ofChange auditRisesSpec)) auditRisesCard

/-- THE TIED CARD OF 'tailracelaw14.DepotOnce'. -/
def depotOnceCard : Claim7 := { stood := { row := depotOnceRow, standIns := [], harness := (true, "0adabc260369cd5399444971a535c397eb0debcabd29ae19def4351431963fc9"), looks := true }, kinds := [], alts := [], laidByText := true, laidKinds := [.data, .pinned], laidTests := true, laidLooks := .later }
def DepotOnceCardSaid : Prop := Claim7.holds Tryz.pinned (.plain (OpenSpec.ofChange depotOnceSpec)) depotOnceCard

/-- THE TIED CARD OF 'tailracelaw19.ConfGrows'. -/
def confGrowsCard : Claim7 := { stood := { row := confGrowsRow, standIns := [], harness := (true, "0adabc260369cd5399444971a535c397eb0debcabd29ae19def4351431963fc9"), looks := true }, kinds := [], alts := [], laidByText := true, laidKinds := [.data, .data, .data, .data, .sentinel, .sentinel, .pinned], laidTests := true, laidLooks := .later }
def ConfGrowsCardSaid : Prop := Claim7.holds Tryz.pinned (.plain (OpenSpec.ofChange confGrowsSpec)) confGrowsCard

/-- THE TIED CARD OF 'tailracelaw19.ConfTwice'. -/
def confTwiceCard : Claim7 := { stood := { row := confTwiceRow, standIns := [], harness := (true, "0adabc260369cd5399444971a535c397eb0debcabd29ae19def4351431963fc9"), looks := true }, kinds := [], alts := [], laidByText := true, laidKinds := [.data, .data, .data, .data, .sentinel, .sentinel, .pinned], laidTests := true, laidLooks := .later }
def ConfTwiceCardSaid : Prop := Claim7.holds Tryz.pinned (.plain (OpenSpec.ofChange confTwiceSpec)) confTwiceCard

/-- THE SECOND FORM's CARD OF 'tailracelaw29.AuditReads'. -/
def auditReadsUptoCard : Claim7 := { stood := { row := auditReadsUptoRow, standIns := [], harness := (true, "0adabc260369cd5399444971a535c397eb0debcabd29ae19def4351431963fc9"), looks := true }, kinds := [], alts := [], laidByText := true, laidKinds := [.data, .pinned], laidTests := true, laidLooks := .later }
def AuditReadsUptoCardSaid : Prop := Claim7.holds Tryz.pinned (.plain (OpenSpec.upto auditReadsSpec)) auditReadsUptoCard

/-- THE SECOND FORM's CARD OF 'tailracelaw29.AuditRises'. -/
def auditRisesUptoCard : Claim7 := { stood := { row := auditRisesUptoRow, standIns := [], harness := (true, "0adabc260369cd5399444971a535c397eb0debcabd29ae19def4351431963fc9"), looks := true }, kinds := [], alts := [], laidByText := true, laidKinds := [.data, .pinned], laidTests := true, laidLooks := .later }
def AuditRisesUptoCardSaid : Prop := Claim7.holds Tryz.pinned (.plain (OpenSpec.upto auditRisesSpec)) auditRisesUptoCard

/-- THE SECOND FORM's CARD OF 'tailracelaw14.DepotOnce'. -/
def depotOnceUptoCard : Claim7 := { stood := { row := depotOnceUptoRow, standIns := [], harness := (true, "0adabc260369cd5399444971a535c397eb0debcabd29ae19def4351431963fc9"), looks := true }, kinds := [], alts := [], laidByText := true, laidKinds := [.data, .pinned], laidTests := true, laidLooks := .later }
def DepotOnceUptoCardSaid : Prop := Claim7.holds Tryz.pinned (.plain (OpenSpec.upto depotOnceSpec)) depotOnceUptoCard

/-- THE SECOND FORM's CARD OF 'tailracelaw19.ConfGrows'. -/
def confGrowsUptoCard : Claim7 := { stood := { row := confGrowsUptoRow, standIns := [], harness := (true, "0adabc260369cd5399444971a535c397eb0debcabd29ae19def4351431963fc9"), looks := true }, kinds := [], alts := [], laidByText := true, laidKinds := [.data, .data, .data, .data, .sentinel, .sentinel, .pinned], laidTests := true, laidLooks := .later }
def ConfGrowsUptoCardSaid : Prop := Claim7.holds Tryz.pinned (.plain (OpenSpec.upto confGrowsSpec)) confGrowsUptoCard

/-- THE SECOND FORM's CARD OF 'tailracelaw19.ConfTwice'. -/
def confTwiceUptoCard : Claim7 := { stood := { row := confTwiceUptoRow, standIns := [], harness := (true, "0adabc260369cd5399444971a535c397eb0debcabd29ae19def4351431963fc9"), looks := true }, kinds := [], alts := [], laidByText := true, laidKinds := [.data, .data, .data, .data, .sentinel, .sentinel, .pinned], laidTests := true, laidLooks := .later }
def ConfTwiceUptoCardSaid : Prop := Claim7.holds Tryz.pinned (.plain (OpenSpec.upto confTwiceSpec)) confTwiceUptoCard
end Rows
end Go.Proofs.YthaaoongjcmleaaGreatDoor
