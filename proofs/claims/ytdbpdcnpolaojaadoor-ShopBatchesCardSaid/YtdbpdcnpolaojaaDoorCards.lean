/-
  DERIVED. GIVEN WITH THE SEED: THE CARDS: each row of YtdbpdcnpolaojaaDoorRows.lean that lists a variable, with what it lists TIED to the program's text (the seventh form; the later family's looks); each row that meets fmt, with fmt's text TOLD by the authors' own Lean function (tested against real Go, not proved from fmt's source: count such statements apart). THE CARD IS WHAT COUNTS. Prove the row's statement (the work); the ties are given (YtdbpdcnpolaojaaDoorTie.lean); close each card by the builder's one call (the guide's Derived/Test/ToyasCard.lean, 'card_holds'). Laid BY PROGRAM, IN A SANDBOX (cutbox-door.mjs). By AI agents, Wed Nov 11 2026. No macro, syntax, notation, axiom, sorry.
-/
import Derived.Test.YtdbpdcnpolaojaaDoorRows
import GoSem.ClaimSeven
namespace Go.Proofs.YtdbpdcnpolaojaaDoor
namespace Rows

/-- THE TIED CARD OF 'tailracelaw12.ShopFolds'. -/
def shopFoldsCard : Claim7 := { stood := { row := shopFoldsRow, standIns := [], harness := (true, "cf2c9ea6f554e083ea9ed3205222cd63b9e643419134e12361ce638326d51350"), looks := false }, kinds := [], alts := [], laidByText := true, laidKinds := [.data, .pinned], laidTests := true, laidLooks := .later }
def ShopFoldsCardSaid : Prop := Claim7.holds Tryd.pinned (.plain (OpenSpec.ofChange shopFoldsSpec)) shopFoldsCard

/-- THE TIED CARD OF 'tailracelaw12.ShopBatches'. -/
def shopBatchesCard : Claim7 := { stood := { row := shopBatchesRow, standIns := [], harness := (true, "cf2c9ea6f554e083ea9ed3205222cd63b9e643419134e12361ce638326d51350"), looks := false }, kinds := [], alts := [], laidByText := true, laidKinds := [.data, .pinned], laidTests := true, laidLooks := .later }
def ShopBatchesCardSaid : Prop := Claim7.holds Tryd.pinned (.plain (OpenSpec.ofChange shopBatchesSpec)) shopBatchesCard

/-- THE SECOND FORM's CARD OF 'tailracelaw12.ShopFolds'. -/
def shopFoldsUptoCard : Claim7 := { stood := { row := shopFoldsUptoRow, standIns := [], harness := (true, "cf2c9ea6f554e083ea9ed3205222cd63b9e643419134e12361ce638326d51350"), looks := false }, kinds := [], alts := [], laidByText := true, laidKinds := [.data, .pinned], laidTests := true, laidLooks := .later }
def ShopFoldsUptoCardSaid : Prop := Claim7.holds Tryd.pinned (.plain (OpenSpec.upto shopFoldsSpec)) shopFoldsUptoCard

/-- THE SECOND FORM's CARD OF 'tailracelaw12.ShopBatches'. -/
def shopBatchesUptoCard : Claim7 := { stood := { row := shopBatchesUptoRow, standIns := [], harness := (true, "cf2c9ea6f554e083ea9ed3205222cd63b9e643419134e12361ce638326d51350"), looks := false }, kinds := [], alts := [], laidByText := true, laidKinds := [.data, .pinned], laidTests := true, laidLooks := .later }
def ShopBatchesUptoCardSaid : Prop := Claim7.holds Tryd.pinned (.plain (OpenSpec.upto shopBatchesSpec)) shopBatchesUptoCard
end Rows
end Go.Proofs.YtdbpdcnpolaojaaDoor
