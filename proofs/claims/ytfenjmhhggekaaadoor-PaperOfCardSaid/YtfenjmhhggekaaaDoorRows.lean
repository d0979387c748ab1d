/-
  NARROWER THAN 'FOR EVERY INPUT', by the rows' own cells (each row's printed sentence says how): PaperPaths: laid · PaperOrders: laid · PaperSets: laid · FeedReads: laid · PaperOf: loops, laid · FeedOpens: laid · FeedAdds: laid · PaperCells: laid · FeedFlows: laid · FeedSubs: laid.
  DERIVED. THE GIVEN ROWS OF THIS SEAT. 10 by the template 'for every input the law returns true; each argument reads behind the call as it read before'; 0 by the template 'total and deterministic' (their statements: YtfenjmhhggekaaaDoorTotals.lean).
  GIVEN WITH THE SEED: the statements are not yours to turn. If you find one false, say at which input.
  Laid BY PROGRAM, IN A SANDBOX (cutbox-rows.mjs): the forced cells as the released guide's own fill.sh prints them over the translation 4b5987639353cfdd… (all of the seat's roots in one cut). By AI agents, Wed Nov 11 2026. No macro, syntax, notation, axiom, sorry.
-/
import Derived.Test.YtfenjmhhggekaaaDoorChecked
import GoSem.PinnedTables
import GoSem.Claim
import GoSem.ClaimJoined
import GoSem.ClaimMapViews
import Derived.JoinedTies
import Derived.KernelRfl
namespace Go.Proofs.YtfenjmhhggekaaaDoor
/- THE CELL 'sum', in the pinned program and in every row, IS THE sha256 OF THE DUMP (.gsa) THAT YtfenjmhhggekaaaDoorProg.lean LOADS. Nothing in Lean hashes anything: it is a label: what it is worth is what the hold of that sum in a sandbox is worth. -/
noncomputable def Tryd.pinned : Pinned := { name := "ytfenjmhhggekaaadoor", sum := "4b5987639353cfddebf9aa44b048b250d066ee547fc64aa367113f635f783d55", checked := Tryd.checked }
namespace Rows
def none {H : Type} : Left H := { results := [], args := [] }

/- WHAT THE LISTED PACKAGE-LEVEL VARIABLES READ AS WHEN THE CALL BEGINS. Each datum BY PROGRAM (the guide's laid-datum.mjs) off the statement by which the dump's own 'gosem.cut.vars' lays the variable. In a bare row this is a premise. The card (YtfenjmhhggekaaaDoorCards.lean) ties it to the program's text. -/
def laid_unicode_utf8_acceptRanges {H : Type} : DataW H := .agg [.agg [.lit (.int .u8 128), .lit (.int .u8 191)], .agg [.lit (.int .u8 160), .lit (.int .u8 191)], .agg [.lit (.int .u8 128), .lit (.int .u8 159)], .agg [.lit (.int .u8 144), .lit (.int .u8 191)], .agg [.lit (.int .u8 128), .lit (.int .u8 143)], .agg [.lit (.int .u8 0), .lit (.int .u8 0)], .agg [.lit (.int .u8 0), .lit (.int .u8 0)], .agg [.lit (.int .u8 0), .lit (.int .u8 0)], .agg [.lit (.int .u8 0), .lit (.int .u8 0)], .agg [.lit (.int .u8 0), .lit (.int .u8 0)], .agg [.lit (.int .u8 0), .lit (.int .u8 0)], .agg [.lit (.int .u8 0), .lit (.int .u8 0)], .agg [.lit (.int .u8 0), .lit (.int .u8 0)], .agg [.lit (.int .u8 0), .lit (.int .u8 0)], .agg [.lit (.int .u8 0), .lit (.int .u8 0)], .agg [.lit (.int .u8 0), .lit (.int .u8 0)]]
/-- One of Go's own tables, pinned by name: the form's constant. -/
def laid_unicode_utf8_first : DataW Unit := Go.Pinned.utf8First

/-- 'tailracelaw04.PaperPaths': WHATEVER THE INPUT: true; the input reads as it did. -/
def paperPathsSpec : ChangeSpec := { name := "paperPaths", fn := fun _ => fun
  | [d1, d2, d3] => { results := [.lit (.bool true)], args := [d1, d2, d3] }
  | _ => none }
def paperPathsRow : OpenClaim := { program := "ytfenjmhhggekaaadoor", sum := "4b5987639353cfddebf9aa44b048b250d066ee547fc64aa367113f635f783d55", func := "tailrace/tailracelaw04.PaperPaths", spec := "paperPaths", inPlace := ["internal/bytealg.CountString", "internal/bytealg.IndexByteString", "internal/bytealg.IndexString", "internal/bytealg.abigen_runtime_cmpstring", "slices.overlaps[tailrace/api.Field]"], unfollowed := true, recurses := true, named := ["unicode/utf8.first", "unicode/utf8.acceptRanges", "internal/bytealg.MaxLen"], apart := false, laid := [("unicode/utf8.acceptRanges", laid_unicode_utf8_acceptRanges), ("unicode/utf8.first", laid_unicode_utf8_first)] }
def PaperPathsSaid : Prop := paperPathsRow.holds Tryd.pinned (OpenSpec.ofChange paperPathsSpec)

/-- ITS FALSE NEIGHBOUR: 'it returns false'. Refute it at one input. -/
def paperPathsWrong : ChangeSpec := { name := "paperPaths", fn := fun _ => fun
  | [d1, d2, d3] => { results := [.lit (.bool false)], args := [d1, d2, d3] }
  | _ => none }
def PaperPathsWrongFalsely : Prop := paperPathsRow.holds Tryd.pinned (OpenSpec.ofChange paperPathsWrong)

/-- 'tailracelaw04.PaperOrders': WHATEVER THE INPUT: true; the input reads as it did. -/
def paperOrdersSpec : ChangeSpec := { name := "paperOrders", fn := fun _ => fun
  | [d1, d2] => { results := [.lit (.bool true)], args := [d1, d2] }
  | _ => none }
def paperOrdersRow : OpenClaim := { program := "ytfenjmhhggekaaadoor", sum := "4b5987639353cfddebf9aa44b048b250d066ee547fc64aa367113f635f783d55", func := "tailrace/tailracelaw04.PaperOrders", spec := "paperOrders", inPlace := ["internal/bytealg.CountString", "internal/bytealg.IndexByteString", "internal/bytealg.IndexString", "internal/bytealg.abigen_runtime_cmpstring", "slices.overlaps[tailrace/api.Field]"], unfollowed := true, recurses := true, named := ["unicode/utf8.first", "unicode/utf8.acceptRanges", "internal/bytealg.MaxLen"], apart := false, laid := [("unicode/utf8.acceptRanges", laid_unicode_utf8_acceptRanges), ("unicode/utf8.first", laid_unicode_utf8_first)] }
def PaperOrdersSaid : Prop := paperOrdersRow.holds Tryd.pinned (OpenSpec.ofChange paperOrdersSpec)

/-- ITS FALSE NEIGHBOUR: 'it returns false'. Refute it at one input. -/
def paperOrdersWrong : ChangeSpec := { name := "paperOrders", fn := fun _ => fun
  | [d1, d2] => { results := [.lit (.bool false)], args := [d1, d2] }
  | _ => none }
def PaperOrdersWrongFalsely : Prop := paperOrdersRow.holds Tryd.pinned (OpenSpec.ofChange paperOrdersWrong)

/-- 'tailracelaw04.PaperSets': WHATEVER THE INPUT: true; the input reads as it did. -/
def paperSetsSpec : ChangeSpec := { name := "paperSets", fn := fun _ => fun
  | [d1, d2, d3] => { results := [.lit (.bool true)], args := [d1, d2, d3] }
  | _ => none }
def paperSetsRow : OpenClaim := { program := "ytfenjmhhggekaaadoor", sum := "4b5987639353cfddebf9aa44b048b250d066ee547fc64aa367113f635f783d55", func := "tailrace/tailracelaw04.PaperSets", spec := "paperSets", inPlace := ["internal/bytealg.CountString", "internal/bytealg.IndexByteString", "internal/bytealg.IndexString", "internal/bytealg.abigen_runtime_cmpstring", "slices.overlaps[tailrace/api.Field]"], unfollowed := true, recurses := true, named := ["unicode/utf8.first", "unicode/utf8.acceptRanges", "internal/bytealg.MaxLen"], apart := false, laid := [("unicode/utf8.acceptRanges", laid_unicode_utf8_acceptRanges), ("unicode/utf8.first", laid_unicode_utf8_first)] }
def PaperSetsSaid : Prop := paperSetsRow.holds Tryd.pinned (OpenSpec.ofChange paperSetsSpec)

/-- ITS FALSE NEIGHBOUR: 'it returns false'. Refute it at one input. -/
def paperSetsWrong : ChangeSpec := { name := "paperSets", fn := fun _ => fun
  | [d1, d2, d3] => { results := [.lit (.bool false)], args := [d1, d2, d3] }
  | _ => none }
def PaperSetsWrongFalsely : Prop := paperSetsRow.holds Tryd.pinned (OpenSpec.ofChange paperSetsWrong)

/-- 'tailracelaw13.FeedReads': WHATEVER THE INPUT: true; the input reads as it did. -/
def feedReadsSpec : ChangeSpec := { name := "feedReads", fn := fun _ => fun
  | [d1, d2, d3] => { results := [.lit (.bool true)], args := [d1, d2, d3] }
  | _ => none }
def feedReadsRow : OpenClaim := { program := "ytfenjmhhggekaaadoor", sum := "4b5987639353cfddebf9aa44b048b250d066ee547fc64aa367113f635f783d55", func := "tailrace/tailracelaw13.FeedReads", spec := "feedReads", inPlace := ["internal/bytealg.CountString", "internal/bytealg.IndexByteString", "internal/bytealg.IndexString", "internal/bytealg.abigen_runtime_cmpstring", "slices.overlaps[tailrace/api.Sub]"], unfollowed := true, recurses := true, named := ["unicode/utf8.first", "unicode/utf8.acceptRanges", "internal/bytealg.MaxLen"], apart := false, laid := [("unicode/utf8.acceptRanges", laid_unicode_utf8_acceptRanges), ("unicode/utf8.first", laid_unicode_utf8_first)] }
def FeedReadsSaid : Prop := feedReadsRow.holds Tryd.pinned (OpenSpec.ofChange feedReadsSpec)

/-- ITS FALSE NEIGHBOUR: 'it returns false'. Refute it at one input. -/
def feedReadsWrong : ChangeSpec := { name := "feedReads", fn := fun _ => fun
  | [d1, d2, d3] => { results := [.lit (.bool false)], args := [d1, d2, d3] }
  | _ => none }
def FeedReadsWrongFalsely : Prop := feedReadsRow.holds Tryd.pinned (OpenSpec.ofChange feedReadsWrong)

/-- 'tailracelaw04.PaperOf': WHATEVER THE INPUT: true; the input reads as it did. -/
def paperOfSpec : ChangeSpec := { name := "paperOf", fn := fun _ => fun
  | [d] => { results := [.lit (.bool true)], args := [d] }
  | _ => none }
def paperOfRow : OpenClaim := { program := "ytfenjmhhggekaaadoor", sum := "4b5987639353cfddebf9aa44b048b250d066ee547fc64aa367113f635f783d55", func := "tailrace/tailracelaw04.PaperOf", spec := "paperOf", inPlace := ["internal/bytealg.CountString", "internal/bytealg.IndexByteString", "internal/bytealg.IndexString", "internal/bytealg.abigen_runtime_cmpstring", "slices.overlaps[tailrace/api.Field]"], unfollowed := true, recurses := true, named := ["unicode/utf8.first", "unicode/utf8.acceptRanges", "internal/bytealg.MaxLen"], loops := true, apart := false, laid := [("unicode/utf8.acceptRanges", laid_unicode_utf8_acceptRanges), ("unicode/utf8.first", laid_unicode_utf8_first)] }
def PaperOfSaid : Prop := paperOfRow.holds Tryd.pinned (OpenSpec.ofChange paperOfSpec)

/-- ITS FALSE NEIGHBOUR: 'it returns false'. Refute it at one input. -/
def paperOfWrong : ChangeSpec := { name := "paperOf", fn := fun _ => fun
  | [d] => { results := [.lit (.bool false)], args := [d] }
  | _ => none }
def PaperOfWrongFalsely : Prop := paperOfRow.holds Tryd.pinned (OpenSpec.ofChange paperOfWrong)

/-- 'tailracelaw13.FeedOpens': WHATEVER THE INPUT: true; the input reads as it did. -/
def feedOpensSpec : ChangeSpec := { name := "feedOpens", fn := fun _ => fun
  | [d1, d2, d3] => { results := [.lit (.bool true)], args := [d1, d2, d3] }
  | _ => none }
def feedOpensRow : OpenClaim := { program := "ytfenjmhhggekaaadoor", sum := "4b5987639353cfddebf9aa44b048b250d066ee547fc64aa367113f635f783d55", func := "tailrace/tailracelaw13.FeedOpens", spec := "feedOpens", inPlace := ["internal/bytealg.CountString", "internal/bytealg.IndexByteString", "internal/bytealg.IndexString", "internal/bytealg.abigen_runtime_cmpstring", "slices.overlaps[tailrace/api.Sub]"], unfollowed := true, recurses := true, named := ["unicode/utf8.first", "unicode/utf8.acceptRanges", "internal/bytealg.MaxLen"], apart := false, laid := [("unicode/utf8.acceptRanges", laid_unicode_utf8_acceptRanges), ("unicode/utf8.first", laid_unicode_utf8_first)] }
def FeedOpensSaid : Prop := feedOpensRow.holds Tryd.pinned (OpenSpec.ofChange feedOpensSpec)

/-- ITS FALSE NEIGHBOUR: 'it returns false'. Refute it at one input. -/
def feedOpensWrong : ChangeSpec := { name := "feedOpens", fn := fun _ => fun
  | [d1, d2, d3] => { results := [.lit (.bool false)], args := [d1, d2, d3] }
  | _ => none }
def FeedOpensWrongFalsely : Prop := feedOpensRow.holds Tryd.pinned (OpenSpec.ofChange feedOpensWrong)

/-- 'tailracelaw13.FeedAdds': WHATEVER THE INPUT: true; the input reads as it did. -/
def feedAddsSpec : ChangeSpec := { name := "feedAdds", fn := fun _ => fun
  | [d1, d2] => { results := [.lit (.bool true)], args := [d1, d2] }
  | _ => none }
def feedAddsRow : OpenClaim := { program := "ytfenjmhhggekaaadoor", sum := "4b5987639353cfddebf9aa44b048b250d066ee547fc64aa367113f635f783d55", func := "tailrace/tailracelaw13.FeedAdds", spec := "feedAdds", inPlace := ["internal/bytealg.CountString", "internal/bytealg.IndexByteString", "internal/bytealg.IndexString", "internal/bytealg.abigen_runtime_cmpstring", "slices.overlaps[tailrace/api.Sub]"], unfollowed := true, recurses := true, named := ["unicode/utf8.first", "unicode/utf8.acceptRanges", "internal/bytealg.MaxLen"], apart := false, laid := [("unicode/utf8.acceptRanges", laid_unicode_utf8_acceptRanges), ("unicode/utf8.first", laid_unicode_utf8_first)] }
def FeedAddsSaid : Prop := feedAddsRow.holds Tryd.pinned (OpenSpec.ofChange feedAddsSpec)

/-- ITS FALSE NEIGHBOUR: 'it returns false'. Refute it at one input. -/
def feedAddsWrong : ChangeSpec := { name := "feedAdds", fn := fun _ => fun
  | [d1, d2] => { results := [.lit (.bool false)], args := [d1, d2] }
  | _ => none }
def FeedAddsWrongFalsely : Prop := feedAddsRow.holds Tryd.pinned (OpenSpec.ofChange feedAddsWrong)

/-- 'tailracelaw04.PaperCells': WHATEVER THE INPUT: true; the input reads as it did. -/
def paperCellsSpec : ChangeSpec := { name := "paperCells", fn := fun _ => fun
  | [d] => { results := [.lit (.bool true)], args := [d] }
  | _ => none }
def paperCellsRow : OpenClaim := { program := "ytfenjmhhggekaaadoor", sum := "4b5987639353cfddebf9aa44b048b250d066ee547fc64aa367113f635f783d55", func := "tailrace/tailracelaw04.PaperCells", spec := "paperCells", inPlace := ["internal/bytealg.CountString", "internal/bytealg.IndexByteString", "internal/bytealg.IndexString", "internal/bytealg.abigen_runtime_cmpstring", "slices.overlaps[tailrace/api.Field]"], unfollowed := true, recurses := true, named := ["unicode/utf8.first", "unicode/utf8.acceptRanges", "internal/bytealg.MaxLen"], apart := false, laid := [("unicode/utf8.acceptRanges", laid_unicode_utf8_acceptRanges), ("unicode/utf8.first", laid_unicode_utf8_first)] }
def PaperCellsSaid : Prop := paperCellsRow.holds Tryd.pinned (OpenSpec.ofChange paperCellsSpec)

/-- ITS FALSE NEIGHBOUR: 'it returns false'. Refute it at one input. -/
def paperCellsWrong : ChangeSpec := { name := "paperCells", fn := fun _ => fun
  | [d] => { results := [.lit (.bool false)], args := [d] }
  | _ => none }
def PaperCellsWrongFalsely : Prop := paperCellsRow.holds Tryd.pinned (OpenSpec.ofChange paperCellsWrong)

/-- 'tailracelaw13.FeedFlows': WHATEVER THE INPUT: true; the input reads as it did. -/
def feedFlowsSpec : ChangeSpec := { name := "feedFlows", fn := fun _ => fun
  | [d1, d2, d3] => { results := [.lit (.bool true)], args := [d1, d2, d3] }
  | _ => none }
def feedFlowsRow : OpenClaim := { program := "ytfenjmhhggekaaadoor", sum := "4b5987639353cfddebf9aa44b048b250d066ee547fc64aa367113f635f783d55", func := "tailrace/tailracelaw13.FeedFlows", spec := "feedFlows", inPlace := ["internal/bytealg.CountString", "internal/bytealg.IndexByteString", "internal/bytealg.IndexString", "internal/bytealg.abigen_runtime_cmpstring", "slices.overlaps[tailrace/api.Sub]"], unfollowed := true, recurses := true, named := ["unicode/utf8.first", "unicode/utf8.acceptRanges", "internal/bytealg.MaxLen"], apart := false, laid := [("unicode/utf8.acceptRanges", laid_unicode_utf8_acceptRanges), ("unicode/utf8.first", laid_unicode_utf8_first)] }
def FeedFlowsSaid : Prop := feedFlowsRow.holds Tryd.pinned (OpenSpec.ofChange feedFlowsSpec)

/-- ITS FALSE NEIGHBOUR: 'it returns false'. Refute it at one input. -/
def feedFlowsWrong : ChangeSpec := { name := "feedFlows", fn := fun _ => fun
  | [d1, d2, d3] => { results := [.lit (.bool false)], args := [d1, d2, d3] }
  | _ => none }
def FeedFlowsWrongFalsely : Prop := feedFlowsRow.holds Tryd.pinned (OpenSpec.ofChange feedFlowsWrong)

/-- 'tailracelaw13.FeedSubs': WHATEVER THE INPUT: true; the input reads as it did. -/
def feedSubsSpec : ChangeSpec := { name := "feedSubs", fn := fun _ => fun
  | [d1, d2, d3] => { results := [.lit (.bool true)], args := [d1, d2, d3] }
  | _ => none }
def feedSubsRow : OpenClaim := { program := "ytfenjmhhggekaaadoor", sum := "4b5987639353cfddebf9aa44b048b250d066ee547fc64aa367113f635f783d55", func := "tailrace/tailracelaw13.FeedSubs", spec := "feedSubs", inPlace := ["internal/bytealg.CountString", "internal/bytealg.IndexByteString", "internal/bytealg.IndexString", "internal/bytealg.abigen_runtime_cmpstring", "slices.overlaps[tailrace/api.Sub]"], unfollowed := true, recurses := true, named := ["unicode/utf8.first", "unicode/utf8.acceptRanges", "internal/bytealg.MaxLen"], apart := false, laid := [("unicode/utf8.acceptRanges", laid_unicode_utf8_acceptRanges), ("unicode/utf8.first", laid_unicode_utf8_first)] }
def FeedSubsSaid : Prop := feedSubsRow.holds Tryd.pinned (OpenSpec.ofChange feedSubsSpec)

/-- ITS FALSE NEIGHBOUR: 'it returns false'. Refute it at one input. -/
def feedSubsWrong : ChangeSpec := { name := "feedSubs", fn := fun _ => fun
  | [d1, d2, d3] => { results := [.lit (.bool false)], args := [d1, d2, d3] }
  | _ => none }
def FeedSubsWrongFalsely : Prop := feedSubsRow.holds Tryd.pinned (OpenSpec.ofChange feedSubsWrong)

/- THE SECOND FORM. 'bulk': how many values and letters a reading holds, each counted each time it is reached (what is shared counts as often as it is met; a slice's spare places count too). A statement '..UptoSaid' is the law's where the arguments, and the package variables that the reading takes, are together of bulk at most 1048576: NARROWER than '..Said'. Prove '..Said' where nothing that the law and all that it calls make is longer than what came in: it says more and counts as full. Else prove '..UptoSaid'. A law counts once. -/
mutual
def uptoBulk {H : Type} : DataW H → Nat
  | .lit (.string bytes) => bytes.length + 1
  | .lit _ => 1
  | .nil => 1
  | .ptr d => uptoBulk d + 1
  | .slice elems spare => uptoBulkAll elems + uptoBulkAll spare + 1
  | .agg parts => uptoBulkAll parts + 1
  | .iface _ d => uptoBulk d + 1
  | .map entries => uptoBulkEntries entries + 1
  | .held _ => 1
def uptoBulkAll {H : Type} : List (DataW H) → Nat
  | [] => 0
  | d :: r => uptoBulk d + uptoBulkAll r
def uptoBulkEntries {H : Type} : List (Lit × DataW H) → Nat
  | [] => 0
  | x :: r => uptoBulkEntry x + uptoBulkEntries r
def uptoBulkEntry {H : Type} : Lit × DataW H → Nat
  | (.string bytes, d) => bytes.length + uptoBulk d + 1
  | (_, d) => uptoBulk d + 1
 end
def uptoSmall : (H : Type) → List (DataW H) → Bool := fun _ ds => decide (uptoBulkAll ds ≤ 1048576)
def OpenSpec.upto (s : _root_.Go.ChangeSpec) : _root_.Go.OpenSpec := { _root_.Go.OpenSpec.ofChange s with cond := some uptoSmall }

/-- 'tailracelaw04.PaperPaths', WHERE WHAT IT READS IS OF BULK AT MOST 1048576: true; the input reads as it did. -/
def paperPathsUptoRow : OpenClaim := { program := "ytfenjmhhggekaaadoor", sum := "4b5987639353cfddebf9aa44b048b250d066ee547fc64aa367113f635f783d55", func := "tailrace/tailracelaw04.PaperPaths", spec := "paperPaths", inPlace := ["internal/bytealg.CountString", "internal/bytealg.IndexByteString", "internal/bytealg.IndexString", "internal/bytealg.abigen_runtime_cmpstring", "slices.overlaps[tailrace/api.Field]"], unfollowed := true, recurses := true, named := ["unicode/utf8.first", "unicode/utf8.acceptRanges", "internal/bytealg.MaxLen"], apart := false, laid := [("unicode/utf8.acceptRanges", laid_unicode_utf8_acceptRanges), ("unicode/utf8.first", laid_unicode_utf8_first)], narrowed := true }
def PaperPathsUptoSaid : Prop := paperPathsUptoRow.holds Tryd.pinned (OpenSpec.upto paperPathsSpec)

/-- 'tailracelaw04.PaperOrders', WHERE WHAT IT READS IS OF BULK AT MOST 1048576: true; the input reads as it did. -/
def paperOrdersUptoRow : OpenClaim := { program := "ytfenjmhhggekaaadoor", sum := "4b5987639353cfddebf9aa44b048b250d066ee547fc64aa367113f635f783d55", func := "tailrace/tailracelaw04.PaperOrders", spec := "paperOrders", inPlace := ["internal/bytealg.CountString", "internal/bytealg.IndexByteString", "internal/bytealg.IndexString", "internal/bytealg.abigen_runtime_cmpstring", "slices.overlaps[tailrace/api.Field]"], unfollowed := true, recurses := true, named := ["unicode/utf8.first", "unicode/utf8.acceptRanges", "internal/bytealg.MaxLen"], apart := false, laid := [("unicode/utf8.acceptRanges", laid_unicode_utf8_acceptRanges), ("unicode/utf8.first", laid_unicode_utf8_first)], narrowed := true }
def PaperOrdersUptoSaid : Prop := paperOrdersUptoRow.holds Tryd.pinned (OpenSpec.upto paperOrdersSpec)

/-- 'tailracelaw04.PaperSets', WHERE WHAT IT READS IS OF BULK AT MOST 1048576: true; the input reads as it did. -/
def paperSetsUptoRow : OpenClaim := { program := "ytfenjmhhggekaaadoor", sum := "4b5987639353cfddebf9aa44b048b250d066ee547fc64aa367113f635f783d55", func := "tailrace/tailracelaw04.PaperSets", spec := "paperSets", inPlace := ["internal/bytealg.CountString", "internal/bytealg.IndexByteString", "internal/bytealg.IndexString", "internal/bytealg.abigen_runtime_cmpstring", "slices.overlaps[tailrace/api.Field]"], unfollowed := true, recurses := true, named := ["unicode/utf8.first", "unicode/utf8.acceptRanges", "internal/bytealg.MaxLen"], apart := false, laid := [("unicode/utf8.acceptRanges", laid_unicode_utf8_acceptRanges), ("unicode/utf8.first", laid_unicode_utf8_first)], narrowed := true }
def PaperSetsUptoSaid : Prop := paperSetsUptoRow.holds Tryd.pinned (OpenSpec.upto paperSetsSpec)

/-- 'tailracelaw13.FeedReads', WHERE WHAT IT READS IS OF BULK AT MOST 1048576: true; the input reads as it did. -/
def feedReadsUptoRow : OpenClaim := { program := "ytfenjmhhggekaaadoor", sum := "4b5987639353cfddebf9aa44b048b250d066ee547fc64aa367113f635f783d55", func := "tailrace/tailracelaw13.FeedReads", spec := "feedReads", inPlace := ["internal/bytealg.CountString", "internal/bytealg.IndexByteString", "internal/bytealg.IndexString", "internal/bytealg.abigen_runtime_cmpstring", "slices.overlaps[tailrace/api.Sub]"], unfollowed := true, recurses := true, named := ["unicode/utf8.first", "unicode/utf8.acceptRanges", "internal/bytealg.MaxLen"], apart := false, laid := [("unicode/utf8.acceptRanges", laid_unicode_utf8_acceptRanges), ("unicode/utf8.first", laid_unicode_utf8_first)], narrowed := true }
def FeedReadsUptoSaid : Prop := feedReadsUptoRow.holds Tryd.pinned (OpenSpec.upto feedReadsSpec)

/-- 'tailracelaw04.PaperOf', WHERE WHAT IT READS IS OF BULK AT MOST 1048576: true; the input reads as it did. -/
def paperOfUptoRow : OpenClaim := { program := "ytfenjmhhggekaaadoor", sum := "4b5987639353cfddebf9aa44b048b250d066ee547fc64aa367113f635f783d55", func := "tailrace/tailracelaw04.PaperOf", spec := "paperOf", inPlace := ["internal/bytealg.CountString", "internal/bytealg.IndexByteString", "internal/bytealg.IndexString", "internal/bytealg.abigen_runtime_cmpstring", "slices.overlaps[tailrace/api.Field]"], unfollowed := true, recurses := true, named := ["unicode/utf8.first", "unicode/utf8.acceptRanges", "internal/bytealg.MaxLen"], loops := true, apart := false, laid := [("unicode/utf8.acceptRanges", laid_unicode_utf8_acceptRanges), ("unicode/utf8.first", laid_unicode_utf8_first)], narrowed := true }
def PaperOfUptoSaid : Prop := paperOfUptoRow.holds Tryd.pinned (OpenSpec.upto paperOfSpec)

/-- 'tailracelaw13.FeedOpens', WHERE WHAT IT READS IS OF BULK AT MOST 1048576: true; the input reads as it did. -/
def feedOpensUptoRow : OpenClaim := { program := "ytfenjmhhggekaaadoor", sum := "4b5987639353cfddebf9aa44b048b250d066ee547fc64aa367113f635f783d55", func := "tailrace/tailracelaw13.FeedOpens", spec := "feedOpens", inPlace := ["internal/bytealg.CountString", "internal/bytealg.IndexByteString", "internal/bytealg.IndexString", "internal/bytealg.abigen_runtime_cmpstring", "slices.overlaps[tailrace/api.Sub]"], unfollowed := true, recurses := true, named := ["unicode/utf8.first", "unicode/utf8.acceptRanges", "internal/bytealg.MaxLen"], apart := false, laid := [("unicode/utf8.acceptRanges", laid_unicode_utf8_acceptRanges), ("unicode/utf8.first", laid_unicode_utf8_first)], narrowed := true }
def FeedOpensUptoSaid : Prop := feedOpensUptoRow.holds Tryd.pinned (OpenSpec.upto feedOpensSpec)

/-- 'tailracelaw13.FeedAdds', WHERE WHAT IT READS IS OF BULK AT MOST 1048576: true; the input reads as it did. -/
def feedAddsUptoRow : OpenClaim := { program := "ytfenjmhhggekaaadoor", sum := "4b5987639353cfddebf9aa44b048b250d066ee547fc64aa367113f635f783d55", func := "tailrace/tailracelaw13.FeedAdds", spec := "feedAdds", inPlace := ["internal/bytealg.CountString", "internal/bytealg.IndexByteString", "internal/bytealg.IndexString", "internal/bytealg.abigen_runtime_cmpstring", "slices.overlaps[tailrace/api.Sub]"], unfollowed := true, recurses := true, named := ["unicode/utf8.first", "unicode/utf8.acceptRanges", "internal/bytealg.MaxLen"], apart := false, laid := [("unicode/utf8.acceptRanges", laid_unicode_utf8_acceptRanges), ("unicode/utf8.first", laid_unicode_utf8_first)], narrowed := true }
def FeedAddsUptoSaid : Prop := feedAddsUptoRow.holds Tryd.pinned (OpenSpec.upto feedAddsSpec)

/-- 'tailracelaw04.PaperCells', WHERE WHAT IT READS IS OF BULK AT MOST 1048576: true; the input reads as it did. -/
def paperCellsUptoRow : OpenClaim := { program := "ytfenjmhhggekaaadoor", sum := "4b5987639353cfddebf9aa44b048b250d066ee547fc64aa367113f635f783d55", func := "tailrace/tailracelaw04.PaperCells", spec := "paperCells", inPlace := ["internal/bytealg.CountString", "internal/bytealg.IndexByteString", "internal/bytealg.IndexString", "internal/bytealg.abigen_runtime_cmpstring", "slices.overlaps[tailrace/api.Field]"], unfollowed := true, recurses := true, named := ["unicode/utf8.first", "unicode/utf8.acceptRanges", "internal/bytealg.MaxLen"], apart := false, laid := [("unicode/utf8.acceptRanges", laid_unicode_utf8_acceptRanges), ("unicode/utf8.first", laid_unicode_utf8_first)], narrowed := true }
def PaperCellsUptoSaid : Prop := paperCellsUptoRow.holds Tryd.pinned (OpenSpec.upto paperCellsSpec)

/-- 'tailracelaw13.FeedFlows', WHERE WHAT IT READS IS OF BULK AT MOST 1048576: true; the input reads as it did. -/
def feedFlowsUptoRow : OpenClaim := { program := "ytfenjmhhggekaaadoor", sum := "4b5987639353cfddebf9aa44b048b250d066ee547fc64aa367113f635f783d55", func := "tailrace/tailracelaw13.FeedFlows", spec := "feedFlows", inPlace := ["internal/bytealg.CountString", "internal/bytealg.IndexByteString", "internal/bytealg.IndexString", "internal/bytealg.abigen_runtime_cmpstring", "slices.overlaps[tailrace/api.Sub]"], unfollowed := true, recurses := true, named := ["unicode/utf8.first", "unicode/utf8.acceptRanges", "internal/bytealg.MaxLen"], apart := false, laid := [("unicode/utf8.acceptRanges", laid_unicode_utf8_acceptRanges), ("unicode/utf8.first", laid_unicode_utf8_first)], narrowed := true }
def FeedFlowsUptoSaid : Prop := feedFlowsUptoRow.holds Tryd.pinned (OpenSpec.upto feedFlowsSpec)

/-- 'tailracelaw13.FeedSubs', WHERE WHAT IT READS IS OF BULK AT MOST 1048576: true; the input reads as it did. -/
def feedSubsUptoRow : OpenClaim := { program := "ytfenjmhhggekaaadoor", sum := "4b5987639353cfddebf9aa44b048b250d066ee547fc64aa367113f635f783d55", func := "tailrace/tailracelaw13.FeedSubs", spec := "feedSubs", inPlace := ["internal/bytealg.CountString", "internal/bytealg.IndexByteString", "internal/bytealg.IndexString", "internal/bytealg.abigen_runtime_cmpstring", "slices.overlaps[tailrace/api.Sub]"], unfollowed := true, recurses := true, named := ["unicode/utf8.first", "unicode/utf8.acceptRanges", "internal/bytealg.MaxLen"], apart := false, laid := [("unicode/utf8.acceptRanges", laid_unicode_utf8_acceptRanges), ("unicode/utf8.first", laid_unicode_utf8_first)], narrowed := true }
def FeedSubsUptoSaid : Prop := feedSubsUptoRow.holds Tryd.pinned (OpenSpec.upto feedSubsSpec)

end Rows
end Go.Proofs.YtfenjmhhggekaaaDoor
