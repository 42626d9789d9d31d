/-
  NARROWER THAN 'FOR EVERY INPUT', by the rows' own cells (each row's printed sentence says how): ScopeBlock: laid · ScopeShows: laid · ScopeNames: laid · ClassifyAll: laid · ClassifyTurned: laid · AttrsAnew: laid · AttrsKeep: laid · FoldsRise: laid · ChainsRanges: laid · FoldsJust: laid · ChainsLeaves: laid · ChainsWithin: laid.
  DERIVED. THE GIVEN ROWS OF THIS SEAT. 12 by the template 'for every input the law returns true; each argument reads behind the call as it read before'; 0 by the template 'total and deterministic' (their statements: YtkicpjjfeekopaaGreatDoorTotals.lean).
  GIVEN WITH THE SEED: the statements are not yours to turn. If you find one false, say at which input.
  Laid BY PROGRAM, IN A SANDBOX (cutbox-rows.mjs): the forced cells as the released guide's own fill.sh prints them over the translation 6ad36e2ceb303203… (all of the seat's roots in one cut). By AI agents, Wed Nov 11 2026. No macro, syntax, notation, axiom, sorry.
-/
import Derived.Test.YtkicpjjfeekopaaGreatDoorChecked
import GoSem.PinnedTables
import GoSem.Claim
import GoSem.ClaimJoined
import GoSem.ClaimMapViews
import Derived.JoinedTies
import Derived.KernelRfl
namespace Go.Proofs.YtkicpjjfeekopaaGreatDoor
/- THE CELL 'sum', in the pinned program and in every row, IS THE sha256 OF THE DUMP (.gsa) THAT YtkicpjjfeekopaaGreatDoorProg.lean LOADS. Nothing in Lean hashes anything: it is a label: what it is worth is what the hold of that sum in a sandbox is worth. -/
noncomputable def Tryz.pinned : Pinned := { name := "ytkicpjjfeekopaagreatdoor", sum := "6ad36e2ceb3032039de01a79f1dcd72daedff1ec40c37c562c99ddf72f7a3e4c", checked := Tryz.checked }
namespace Rows
def none {H : Type} : Left H := { results := [], args := [] }

/- WHAT THE LISTED PACKAGE-LEVEL VARIABLES READ AS WHEN THE CALL BEGINS. Each datum BY PROGRAM (the guide's laid-datum.mjs) off the statement by which the dump's own 'gosem.cut.vars' lays the variable. In a bare row this is a premise. The card (YtkicpjjfeekopaaGreatDoorCards.lean) ties it to the program's text. -/
def laid_unicode_utf8_acceptRanges {H : Type} : DataW H := .agg [.agg [.lit (.int .u8 128), .lit (.int .u8 191)], .agg [.lit (.int .u8 160), .lit (.int .u8 191)], .agg [.lit (.int .u8 128), .lit (.int .u8 159)], .agg [.lit (.int .u8 144), .lit (.int .u8 191)], .agg [.lit (.int .u8 128), .lit (.int .u8 143)], .agg [.lit (.int .u8 0), .lit (.int .u8 0)], .agg [.lit (.int .u8 0), .lit (.int .u8 0)], .agg [.lit (.int .u8 0), .lit (.int .u8 0)], .agg [.lit (.int .u8 0), .lit (.int .u8 0)], .agg [.lit (.int .u8 0), .lit (.int .u8 0)], .agg [.lit (.int .u8 0), .lit (.int .u8 0)], .agg [.lit (.int .u8 0), .lit (.int .u8 0)], .agg [.lit (.int .u8 0), .lit (.int .u8 0)], .agg [.lit (.int .u8 0), .lit (.int .u8 0)], .agg [.lit (.int .u8 0), .lit (.int .u8 0)], .agg [.lit (.int .u8 0), .lit (.int .u8 0)]]
/-- One of Go's own tables, pinned by name: the form's constant. -/
def laid_unicode_utf8_first : DataW Unit := Go.Pinned.utf8First
def laid_glossator_classify_colours {H : Type} : DataW H := .agg [.lit (.int .i64 0), .lit (.int .i64 0), .lit (.int .i64 2), .lit (.int .i64 2), .lit (.int .i64 2), .lit (.int .i64 0), .lit (.int .i64 0), .lit (.int .i64 4), .lit (.int .i64 3), .lit (.int .i64 3), .lit (.int .i64 1), .lit (.int .i64 1), .lit (.int .i64 1), .lit (.int .i64 1), .lit (.int .i64 1), .lit (.int .i64 1), .lit (.int .i64 1), .lit (.int .i64 1), .lit (.int .i64 0), .lit (.int .i64 0), .lit (.int .i64 0), .lit (.int .i64 0), .lit (.int .i64 0), .lit (.int .i64 0), .lit (.int .i64 0), .lit (.int .i64 0), .lit (.int .i64 5), .lit (.int .i64 5), .lit (.int .i64 5), .lit (.int .i64 5), .lit (.int .i64 5), .lit (.int .i64 5), .lit (.int .i64 5), .lit (.int .i64 5), .lit (.int .i64 5), .lit (.int .i64 5), .lit (.int .i64 5), .lit (.int .i64 5), .lit (.int .i64 5), .lit (.int .i64 5), .lit (.int .i64 5)]

/-- 'glossatorlaw20.ScopeBlock': WHATEVER THE INPUT: true; the input reads as it did. -/
def scopeBlockSpec : ChangeSpec := { name := "scopeBlock", fn := fun _ => fun
  | [d] => { results := [.lit (.bool true)], args := [d] }
  | _ => none }
def scopeBlockRow : OpenClaim := { program := "ytkicpjjfeekopaagreatdoor", sum := "6ad36e2ceb3032039de01a79f1dcd72daedff1ec40c37c562c99ddf72f7a3e4c", func := "glossator/glossatorlaw20.ScopeBlock", spec := "scopeBlock", inPlace := ["internal/bytealg.IndexByteString", "internal/bytealg.IndexString", "internal/bytealg.CountString"], unfollowed := true, recurses := true, named := ["unicode/utf8.first", "unicode/utf8.acceptRanges", "internal/bytealg.MaxLen"], plainKeys := false, apart := false, laid := [("unicode/utf8.acceptRanges", laid_unicode_utf8_acceptRanges), ("unicode/utf8.first", laid_unicode_utf8_first)] }
def ScopeBlockSaid : Prop := scopeBlockRow.holds Tryz.pinned (OpenSpec.ofChange scopeBlockSpec)

/-- ITS FALSE NEIGHBOUR: 'it returns false'. Refute it at one input. -/
def scopeBlockWrong : ChangeSpec := { name := "scopeBlock", fn := fun _ => fun
  | [d] => { results := [.lit (.bool false)], args := [d] }
  | _ => none }
def ScopeBlockWrongFalsely : Prop := scopeBlockRow.holds Tryz.pinned (OpenSpec.ofChange scopeBlockWrong)

/-- 'glossatorlaw20.ScopeShows': WHATEVER THE INPUT: true; the input reads as it did. -/
def scopeShowsSpec : ChangeSpec := { name := "scopeShows", fn := fun _ => fun
  | [d] => { results := [.lit (.bool true)], args := [d] }
  | _ => none }
def scopeShowsRow : OpenClaim := { program := "ytkicpjjfeekopaagreatdoor", sum := "6ad36e2ceb3032039de01a79f1dcd72daedff1ec40c37c562c99ddf72f7a3e4c", func := "glossator/glossatorlaw20.ScopeShows", spec := "scopeShows", inPlace := ["internal/bytealg.IndexByteString", "internal/bytealg.IndexString", "internal/bytealg.CountString"], unfollowed := true, recurses := true, named := ["unicode/utf8.first", "unicode/utf8.acceptRanges", "internal/bytealg.MaxLen"], plainKeys := false, apart := false, laid := [("unicode/utf8.acceptRanges", laid_unicode_utf8_acceptRanges), ("unicode/utf8.first", laid_unicode_utf8_first)] }
def ScopeShowsSaid : Prop := scopeShowsRow.holds Tryz.pinned (OpenSpec.ofChange scopeShowsSpec)

/-- ITS FALSE NEIGHBOUR: 'it returns false'. Refute it at one input. -/
def scopeShowsWrong : ChangeSpec := { name := "scopeShows", fn := fun _ => fun
  | [d] => { results := [.lit (.bool false)], args := [d] }
  | _ => none }
def ScopeShowsWrongFalsely : Prop := scopeShowsRow.holds Tryz.pinned (OpenSpec.ofChange scopeShowsWrong)

/-- 'glossatorlaw20.ScopeNames': WHATEVER THE INPUT: true; the input reads as it did. -/
def scopeNamesSpec : ChangeSpec := { name := "scopeNames", fn := fun _ => fun
  | [d1, d2] => { results := [.lit (.bool true)], args := [d1, d2] }
  | _ => none }
def scopeNamesRow : OpenClaim := { program := "ytkicpjjfeekopaagreatdoor", sum := "6ad36e2ceb3032039de01a79f1dcd72daedff1ec40c37c562c99ddf72f7a3e4c", func := "glossator/glossatorlaw20.ScopeNames", spec := "scopeNames", inPlace := ["internal/bytealg.IndexByteString", "internal/bytealg.IndexString", "internal/bytealg.CountString"], unfollowed := true, recurses := true, named := ["unicode/utf8.first", "unicode/utf8.acceptRanges", "internal/bytealg.MaxLen"], plainKeys := false, apart := false, laid := [("unicode/utf8.acceptRanges", laid_unicode_utf8_acceptRanges), ("unicode/utf8.first", laid_unicode_utf8_first)] }
def ScopeNamesSaid : Prop := scopeNamesRow.holds Tryz.pinned (OpenSpec.ofChange scopeNamesSpec)

/-- ITS FALSE NEIGHBOUR: 'it returns false'. Refute it at one input. -/
def scopeNamesWrong : ChangeSpec := { name := "scopeNames", fn := fun _ => fun
  | [d1, d2] => { results := [.lit (.bool false)], args := [d1, d2] }
  | _ => none }
def ScopeNamesWrongFalsely : Prop := scopeNamesRow.holds Tryz.pinned (OpenSpec.ofChange scopeNamesWrong)

/-- 'glossatorlaw22.ClassifyAll': WHATEVER THE INPUT: true; the input reads as it did. -/
def classifyAllSpec : ChangeSpec := { name := "classifyAll", fn := fun _ => fun
  | [d] => { results := [.lit (.bool true)], args := [d] }
  | _ => none }
def classifyAllRow : OpenClaim := { program := "ytkicpjjfeekopaagreatdoor", sum := "6ad36e2ceb3032039de01a79f1dcd72daedff1ec40c37c562c99ddf72f7a3e4c", func := "glossator/glossatorlaw22.ClassifyAll", spec := "classifyAll", inPlace := ["internal/bytealg.IndexByteString", "internal/bytealg.IndexString", "internal/bytealg.CountString"], unfollowed := true, recurses := true, named := ["unicode/utf8.first", "unicode/utf8.acceptRanges", "internal/bytealg.MaxLen", "glossator/classify.colours"], plainKeys := false, apart := false, laid := [("unicode/utf8.acceptRanges", laid_unicode_utf8_acceptRanges), ("glossator/classify.colours", laid_glossator_classify_colours), ("unicode/utf8.first", laid_unicode_utf8_first)] }
def ClassifyAllSaid : Prop := classifyAllRow.holds Tryz.pinned (OpenSpec.ofChange classifyAllSpec)

/-- ITS FALSE NEIGHBOUR: 'it returns false'. Refute it at one input. -/
def classifyAllWrong : ChangeSpec := { name := "classifyAll", fn := fun _ => fun
  | [d] => { results := [.lit (.bool false)], args := [d] }
  | _ => none }
def ClassifyAllWrongFalsely : Prop := classifyAllRow.holds Tryz.pinned (OpenSpec.ofChange classifyAllWrong)

/-- 'glossatorlaw22.ClassifyTurned': WHATEVER THE INPUT: true; the input reads as it did. -/
def classifyTurnedSpec : ChangeSpec := { name := "classifyTurned", fn := fun _ => fun
  | [d1, d2] => { results := [.lit (.bool true)], args := [d1, d2] }
  | _ => none }
def classifyTurnedRow : OpenClaim := { program := "ytkicpjjfeekopaagreatdoor", sum := "6ad36e2ceb3032039de01a79f1dcd72daedff1ec40c37c562c99ddf72f7a3e4c", func := "glossator/glossatorlaw22.ClassifyTurned", spec := "classifyTurned", inPlace := ["internal/bytealg.IndexByteString", "internal/bytealg.IndexString", "internal/bytealg.CountString"], unfollowed := true, recurses := true, named := ["unicode/utf8.first", "unicode/utf8.acceptRanges", "internal/bytealg.MaxLen", "glossator/classify.colours"], plainKeys := false, apart := false, laid := [("unicode/utf8.acceptRanges", laid_unicode_utf8_acceptRanges), ("glossator/classify.colours", laid_glossator_classify_colours), ("unicode/utf8.first", laid_unicode_utf8_first)] }
def ClassifyTurnedSaid : Prop := classifyTurnedRow.holds Tryz.pinned (OpenSpec.ofChange classifyTurnedSpec)

/-- ITS FALSE NEIGHBOUR: 'it returns false'. Refute it at one input. -/
def classifyTurnedWrong : ChangeSpec := { name := "classifyTurned", fn := fun _ => fun
  | [d1, d2] => { results := [.lit (.bool false)], args := [d1, d2] }
  | _ => none }
def ClassifyTurnedWrongFalsely : Prop := classifyTurnedRow.holds Tryz.pinned (OpenSpec.ofChange classifyTurnedWrong)

/-- 'glossatorlaw21.AttrsAnew': WHATEVER THE INPUT: true; the input reads as it did. -/
def attrsAnewSpec : ChangeSpec := { name := "attrsAnew", fn := fun _ => fun
  | [d1, d2] => { results := [.lit (.bool true)], args := [d1, d2] }
  | _ => none }
def attrsAnewRow : OpenClaim := { program := "ytkicpjjfeekopaagreatdoor", sum := "6ad36e2ceb3032039de01a79f1dcd72daedff1ec40c37c562c99ddf72f7a3e4c", func := "glossator/glossatorlaw21.AttrsAnew", spec := "attrsAnew", inPlace := ["internal/bytealg.IndexByteString", "internal/bytealg.IndexString", "internal/bytealg.CountString"], unfollowed := true, recurses := true, named := ["unicode/utf8.first", "unicode/utf8.acceptRanges", "internal/bytealg.MaxLen"], plainKeys := false, apart := false, laid := [("unicode/utf8.acceptRanges", laid_unicode_utf8_acceptRanges), ("unicode/utf8.first", laid_unicode_utf8_first)] }
def AttrsAnewSaid : Prop := attrsAnewRow.holds Tryz.pinned (OpenSpec.ofChange attrsAnewSpec)

/-- ITS FALSE NEIGHBOUR: 'it returns false'. Refute it at one input. -/
def attrsAnewWrong : ChangeSpec := { name := "attrsAnew", fn := fun _ => fun
  | [d1, d2] => { results := [.lit (.bool false)], args := [d1, d2] }
  | _ => none }
def AttrsAnewWrongFalsely : Prop := attrsAnewRow.holds Tryz.pinned (OpenSpec.ofChange attrsAnewWrong)

/-- 'glossatorlaw21.AttrsKeep': WHATEVER THE INPUT: true; the input reads as it did. -/
def attrsKeepSpec : ChangeSpec := { name := "attrsKeep", fn := fun _ => fun
  | [d1, d2] => { results := [.lit (.bool true)], args := [d1, d2] }
  | _ => none }
def attrsKeepRow : OpenClaim := { program := "ytkicpjjfeekopaagreatdoor", sum := "6ad36e2ceb3032039de01a79f1dcd72daedff1ec40c37c562c99ddf72f7a3e4c", func := "glossator/glossatorlaw21.AttrsKeep", spec := "attrsKeep", inPlace := ["internal/bytealg.IndexByteString", "internal/bytealg.IndexString", "internal/bytealg.CountString"], unfollowed := true, recurses := true, named := ["unicode/utf8.first", "unicode/utf8.acceptRanges", "internal/bytealg.MaxLen"], plainKeys := false, apart := false, laid := [("unicode/utf8.acceptRanges", laid_unicode_utf8_acceptRanges), ("unicode/utf8.first", laid_unicode_utf8_first)] }
def AttrsKeepSaid : Prop := attrsKeepRow.holds Tryz.pinned (OpenSpec.ofChange attrsKeepSpec)

/-- ITS FALSE NEIGHBOUR: 'it returns false'. Refute it at one input. -/
def attrsKeepWrong : ChangeSpec := { name := "attrsKeep", fn := fun _ => fun
  | [d1, d2] => { results := [.lit (.bool false)], args := [d1, d2] }
  | _ => none }
def AttrsKeepWrongFalsely : Prop := attrsKeepRow.holds Tryz.pinned (OpenSpec.ofChange attrsKeepWrong)

/-- 'glossatorlaw26.FoldsRise': WHATEVER THE INPUT: true; the input reads as it did. -/
def foldsRiseSpec : ChangeSpec := { name := "foldsRise", fn := fun _ => fun
  | [d] => { results := [.lit (.bool true)], args := [d] }
  | _ => none }
def foldsRiseRow : OpenClaim := { program := "ytkicpjjfeekopaagreatdoor", sum := "6ad36e2ceb3032039de01a79f1dcd72daedff1ec40c37c562c99ddf72f7a3e4c", func := "glossator/glossatorlaw26.FoldsRise", spec := "foldsRise", inPlace := ["internal/bytealg.IndexByteString", "internal/bytealg.IndexString", "internal/bytealg.CountString"], unfollowed := true, recurses := true, named := ["unicode/utf8.first", "unicode/utf8.acceptRanges", "internal/bytealg.MaxLen"], plainKeys := false, apart := false, laid := [("unicode/utf8.acceptRanges", laid_unicode_utf8_acceptRanges), ("unicode/utf8.first", laid_unicode_utf8_first)] }
def FoldsRiseSaid : Prop := foldsRiseRow.holds Tryz.pinned (OpenSpec.ofChange foldsRiseSpec)

/-- ITS FALSE NEIGHBOUR: 'it returns false'. Refute it at one input. -/
def foldsRiseWrong : ChangeSpec := { name := "foldsRise", fn := fun _ => fun
  | [d] => { results := [.lit (.bool false)], args := [d] }
  | _ => none }
def FoldsRiseWrongFalsely : Prop := foldsRiseRow.holds Tryz.pinned (OpenSpec.ofChange foldsRiseWrong)

/-- 'glossatorlaw27.ChainsRanges': WHATEVER THE INPUT: true; the input reads as it did. -/
def chainsRangesSpec : ChangeSpec := { name := "chainsRanges", fn := fun _ => fun
  | [d1, d2] => { results := [.lit (.bool true)], args := [d1, d2] }
  | _ => none }
def chainsRangesRow : OpenClaim := { program := "ytkicpjjfeekopaagreatdoor", sum := "6ad36e2ceb3032039de01a79f1dcd72daedff1ec40c37c562c99ddf72f7a3e4c", func := "glossator/glossatorlaw27.ChainsRanges", spec := "chainsRanges", inPlace := ["internal/bytealg.IndexByteString", "internal/bytealg.IndexString", "internal/bytealg.CountString"], unfollowed := true, recurses := true, named := ["unicode/utf8.first", "unicode/utf8.acceptRanges", "internal/bytealg.MaxLen"], plainKeys := false, apart := false, laid := [("unicode/utf8.acceptRanges", laid_unicode_utf8_acceptRanges), ("unicode/utf8.first", laid_unicode_utf8_first)] }
def ChainsRangesSaid : Prop := chainsRangesRow.holds Tryz.pinned (OpenSpec.ofChange chainsRangesSpec)

/-- ITS FALSE NEIGHBOUR: 'it returns false'. Refute it at one input. -/
def chainsRangesWrong : ChangeSpec := { name := "chainsRanges", fn := fun _ => fun
  | [d1, d2] => { results := [.lit (.bool false)], args := [d1, d2] }
  | _ => none }
def ChainsRangesWrongFalsely : Prop := chainsRangesRow.holds Tryz.pinned (OpenSpec.ofChange chainsRangesWrong)

/-- 'glossatorlaw26.FoldsJust': WHATEVER THE INPUT: true; the input reads as it did. -/
def foldsJustSpec : ChangeSpec := { name := "foldsJust", fn := fun _ => fun
  | [d] => { results := [.lit (.bool true)], args := [d] }
  | _ => none }
def foldsJustRow : OpenClaim := { program := "ytkicpjjfeekopaagreatdoor", sum := "6ad36e2ceb3032039de01a79f1dcd72daedff1ec40c37c562c99ddf72f7a3e4c", func := "glossator/glossatorlaw26.FoldsJust", spec := "foldsJust", inPlace := ["internal/bytealg.IndexByteString", "internal/bytealg.IndexString", "internal/bytealg.CountString"], unfollowed := true, recurses := true, named := ["unicode/utf8.first", "unicode/utf8.acceptRanges", "internal/bytealg.MaxLen"], plainKeys := false, apart := false, laid := [("unicode/utf8.acceptRanges", laid_unicode_utf8_acceptRanges), ("unicode/utf8.first", laid_unicode_utf8_first)] }
def FoldsJustSaid : Prop := foldsJustRow.holds Tryz.pinned (OpenSpec.ofChange foldsJustSpec)

/-- ITS FALSE NEIGHBOUR: 'it returns false'. Refute it at one input. -/
def foldsJustWrong : ChangeSpec := { name := "foldsJust", fn := fun _ => fun
  | [d] => { results := [.lit (.bool false)], args := [d] }
  | _ => none }
def FoldsJustWrongFalsely : Prop := foldsJustRow.holds Tryz.pinned (OpenSpec.ofChange foldsJustWrong)

/-- 'glossatorlaw27.ChainsLeaves': WHATEVER THE INPUT: true; the input reads as it did. -/
def chainsLeavesSpec : ChangeSpec := { name := "chainsLeaves", fn := fun _ => fun
  | [d1, d2] => { results := [.lit (.bool true)], args := [d1, d2] }
  | _ => none }
def chainsLeavesRow : OpenClaim := { program := "ytkicpjjfeekopaagreatdoor", sum := "6ad36e2ceb3032039de01a79f1dcd72daedff1ec40c37c562c99ddf72f7a3e4c", func := "glossator/glossatorlaw27.ChainsLeaves", spec := "chainsLeaves", inPlace := ["internal/bytealg.IndexByteString", "internal/bytealg.IndexString", "internal/bytealg.CountString"], unfollowed := true, recurses := true, named := ["unicode/utf8.first", "unicode/utf8.acceptRanges", "internal/bytealg.MaxLen"], plainKeys := false, apart := false, laid := [("unicode/utf8.acceptRanges", laid_unicode_utf8_acceptRanges), ("unicode/utf8.first", laid_unicode_utf8_first)] }
def ChainsLeavesSaid : Prop := chainsLeavesRow.holds Tryz.pinned (OpenSpec.ofChange chainsLeavesSpec)

/-- ITS FALSE NEIGHBOUR: 'it returns false'. Refute it at one input. -/
def chainsLeavesWrong : ChangeSpec := { name := "chainsLeaves", fn := fun _ => fun
  | [d1, d2] => { results := [.lit (.bool false)], args := [d1, d2] }
  | _ => none }
def ChainsLeavesWrongFalsely : Prop := chainsLeavesRow.holds Tryz.pinned (OpenSpec.ofChange chainsLeavesWrong)

/-- 'glossatorlaw27.ChainsWithin': WHATEVER THE INPUT: true; the input reads as it did. -/
def chainsWithinSpec : ChangeSpec := { name := "chainsWithin", fn := fun _ => fun
  | [d1, d2] => { results := [.lit (.bool true)], args := [d1, d2] }
  | _ => none }
def chainsWithinRow : OpenClaim := { program := "ytkicpjjfeekopaagreatdoor", sum := "6ad36e2ceb3032039de01a79f1dcd72daedff1ec40c37c562c99ddf72f7a3e4c", func := "glossator/glossatorlaw27.ChainsWithin", spec := "chainsWithin", inPlace := ["internal/bytealg.IndexByteString", "internal/bytealg.IndexString", "internal/bytealg.CountString"], unfollowed := true, recurses := true, named := ["unicode/utf8.first", "unicode/utf8.acceptRanges", "internal/bytealg.MaxLen"], plainKeys := false, apart := false, laid := [("unicode/utf8.acceptRanges", laid_unicode_utf8_acceptRanges), ("unicode/utf8.first", laid_unicode_utf8_first)] }
def ChainsWithinSaid : Prop := chainsWithinRow.holds Tryz.pinned (OpenSpec.ofChange chainsWithinSpec)

/-- ITS FALSE NEIGHBOUR: 'it returns false'. Refute it at one input. -/
def chainsWithinWrong : ChangeSpec := { name := "chainsWithin", fn := fun _ => fun
  | [d1, d2] => { results := [.lit (.bool false)], args := [d1, d2] }
  | _ => none }
def ChainsWithinWrongFalsely : Prop := chainsWithinRow.holds Tryz.pinned (OpenSpec.ofChange chainsWithinWrong)

/- THE SECOND FORM. 'bulk': how many values and letters a reading holds, each counted each time it is reached (what is shared counts as often as it is met; a slice's spare places count too). A statement '..UptoSaid' is the law's where the arguments, and the package variables that the reading takes, are together of bulk at most 1048576: NARROWER than '..Said'. Prove '..Said' where nothing that the law and all that it calls make is longer than what came in: it says more and counts as full. Else prove '..UptoSaid'. A law counts once. -/
mutual
def uptoBulk {H : Type} : DataW H → Nat
  | .lit (.string bytes) => bytes.length + 1
  | .lit _ => 1
  | .nil => 1
  | .ptr d => uptoBulk d + 1
  | .slice elems spare => uptoBulkAll elems + uptoBulkAll spare + 1
  | .agg parts => uptoBulkAll parts + 1
  | .iface _ d => uptoBulk d + 1
  | .map entries => uptoBulkEntries entries + 1
  | .held _ => 1
def uptoBulkAll {H : Type} : List (DataW H) → Nat
  | [] => 0
  | d :: r => uptoBulk d + uptoBulkAll r
def uptoBulkEntries {H : Type} : List (Lit × DataW H) → Nat
  | [] => 0
  | x :: r => uptoBulkEntry x + uptoBulkEntries r
def uptoBulkEntry {H : Type} : Lit × DataW H → Nat
  | (.string bytes, d) => bytes.length + uptoBulk d + 1
  | (_, d) => uptoBulk d + 1
 end
def uptoSmall : (H : Type) → List (DataW H) → Bool := fun _ ds => decide (uptoBulkAll ds ≤ 1048576)
def OpenSpec.upto (s : _root_.Go.ChangeSpec) : _root_.Go.OpenSpec := { _root_.Go.OpenSpec.ofChange s with cond := some uptoSmall }

/-- 'glossatorlaw20.ScopeBlock', WHERE WHAT IT READS IS OF BULK AT MOST 1048576: true; the input reads as it did. -/
def scopeBlockUptoRow : OpenClaim := { program := "ytkicpjjfeekopaagreatdoor", sum := "6ad36e2ceb3032039de01a79f1dcd72daedff1ec40c37c562c99ddf72f7a3e4c", func := "glossator/glossatorlaw20.ScopeBlock", spec := "scopeBlock", inPlace := ["internal/bytealg.IndexByteString", "internal/bytealg.IndexString", "internal/bytealg.CountString"], unfollowed := true, recurses := true, named := ["unicode/utf8.first", "unicode/utf8.acceptRanges", "internal/bytealg.MaxLen"], plainKeys := false, apart := false, laid := [("unicode/utf8.acceptRanges", laid_unicode_utf8_acceptRanges), ("unicode/utf8.first", laid_unicode_utf8_first)], narrowed := true }
def ScopeBlockUptoSaid : Prop := scopeBlockUptoRow.holds Tryz.pinned (OpenSpec.upto scopeBlockSpec)

/-- 'glossatorlaw20.ScopeShows', WHERE WHAT IT READS IS OF BULK AT MOST 1048576: true; the input reads as it did. -/
def scopeShowsUptoRow : OpenClaim := { program := "ytkicpjjfeekopaagreatdoor", sum := "6ad36e2ceb3032039de01a79f1dcd72daedff1ec40c37c562c99ddf72f7a3e4c", func := "glossator/glossatorlaw20.ScopeShows", spec := "scopeShows", inPlace := ["internal/bytealg.IndexByteString", "internal/bytealg.IndexString", "internal/bytealg.CountString"], unfollowed := true, recurses := true, named := ["unicode/utf8.first", "unicode/utf8.acceptRanges", "internal/bytealg.MaxLen"], plainKeys := false, apart := false, laid := [("unicode/utf8.acceptRanges", laid_unicode_utf8_acceptRanges), ("unicode/utf8.first", laid_unicode_utf8_first)], narrowed := true }
def ScopeShowsUptoSaid : Prop := scopeShowsUptoRow.holds Tryz.pinned (OpenSpec.upto scopeShowsSpec)

/-- 'glossatorlaw20.ScopeNames', WHERE WHAT IT READS IS OF BULK AT MOST 1048576: true; the input reads as it did. -/
def scopeNamesUptoRow : OpenClaim := { program := "ytkicpjjfeekopaagreatdoor", sum := "6ad36e2ceb3032039de01a79f1dcd72daedff1ec40c37c562c99ddf72f7a3e4c", func := "glossator/glossatorlaw20.ScopeNames", spec := "scopeNames", inPlace := ["internal/bytealg.IndexByteString", "internal/bytealg.IndexString", "internal/bytealg.CountString"], unfollowed := true, recurses := true, named := ["unicode/utf8.first", "unicode/utf8.acceptRanges", "internal/bytealg.MaxLen"], plainKeys := false, apart := false, laid := [("unicode/utf8.acceptRanges", laid_unicode_utf8_acceptRanges), ("unicode/utf8.first", laid_unicode_utf8_first)], narrowed := true }
def ScopeNamesUptoSaid : Prop := scopeNamesUptoRow.holds Tryz.pinned (OpenSpec.upto scopeNamesSpec)

/-- 'glossatorlaw22.ClassifyAll', WHERE WHAT IT READS IS OF BULK AT MOST 1048576: true; the input reads as it did. -/
def classifyAllUptoRow : OpenClaim := { program := "ytkicpjjfeekopaagreatdoor", sum := "6ad36e2ceb3032039de01a79f1dcd72daedff1ec40c37c562c99ddf72f7a3e4c", func := "glossator/glossatorlaw22.ClassifyAll", spec := "classifyAll", inPlace := ["internal/bytealg.IndexByteString", "internal/bytealg.IndexString", "internal/bytealg.CountString"], unfollowed := true, recurses := true, named := ["unicode/utf8.first", "unicode/utf8.acceptRanges", "internal/bytealg.MaxLen", "glossator/classify.colours"], plainKeys := false, apart := false, laid := [("unicode/utf8.acceptRanges", laid_unicode_utf8_acceptRanges), ("glossator/classify.colours", laid_glossator_classify_colours), ("unicode/utf8.first", laid_unicode_utf8_first)], narrowed := true }
def ClassifyAllUptoSaid : Prop := classifyAllUptoRow.holds Tryz.pinned (OpenSpec.upto classifyAllSpec)

/-- 'glossatorlaw22.ClassifyTurned', WHERE WHAT IT READS IS OF BULK AT MOST 1048576: true; the input reads as it did. -/
def classifyTurnedUptoRow : OpenClaim := { program := "ytkicpjjfeekopaagreatdoor", sum := "6ad36e2ceb3032039de01a79f1dcd72daedff1ec40c37c562c99ddf72f7a3e4c", func := "glossator/glossatorlaw22.ClassifyTurned", spec := "classifyTurned", inPlace := ["internal/bytealg.IndexByteString", "internal/bytealg.IndexString", "internal/bytealg.CountString"], unfollowed := true, recurses := true, named := ["unicode/utf8.first", "unicode/utf8.acceptRanges", "internal/bytealg.MaxLen", "glossator/classify.colours"], plainKeys := false, apart := false, laid := [("unicode/utf8.acceptRanges", laid_unicode_utf8_acceptRanges), ("glossator/classify.colours", laid_glossator_classify_colours), ("unicode/utf8.first", laid_unicode_utf8_first)], narrowed := true }
def ClassifyTurnedUptoSaid : Prop := classifyTurnedUptoRow.holds Tryz.pinned (OpenSpec.upto classifyTurnedSpec)

/-- 'glossatorlaw21.AttrsAnew', WHERE WHAT IT READS IS OF BULK AT MOST 1048576: true; the input reads as it did. -/
def attrsAnewUptoRow : OpenClaim := { program := "ytkicpjjfeekopaagreatdoor", sum := "6ad36e2ceb3032039de01a79f1dcd72daedff1ec40c37c562c99ddf72f7a3e4c", func := "glossator/glossatorlaw21.AttrsAnew", spec := "attrsAnew", inPlace := ["internal/bytealg.IndexByteString", "internal/bytealg.IndexString", "internal/bytealg.CountString"], unfollowed := true, recurses := true, named := ["unicode/utf8.first", "unicode/utf8.acceptRanges", "internal/bytealg.MaxLen"], plainKeys := false, apart := false, laid := [("unicode/utf8.acceptRanges", laid_unicode_utf8_acceptRanges), ("unicode/utf8.first", laid_unicode_utf8_first)], narrowed := true }
def AttrsAnewUptoSaid : Prop := attrsAnewUptoRow.holds Tryz.pinned (OpenSpec.upto attrsAnewSpec)

/-- 'glossatorlaw21.AttrsKeep', WHERE WHAT IT READS IS OF BULK AT MOST 1048576: true; the input reads as it did. -/
def attrsKeepUptoRow : OpenClaim := { program := "ytkicpjjfeekopaagreatdoor", sum := "6ad36e2ceb3032039de01a79f1dcd72daedff1ec40c37c562c99ddf72f7a3e4c", func := "glossator/glossatorlaw21.AttrsKeep", spec := "attrsKeep", inPlace := ["internal/bytealg.IndexByteString", "internal/bytealg.IndexString", "internal/bytealg.CountString"], unfollowed := true, recurses := true, named := ["unicode/utf8.first", "unicode/utf8.acceptRanges", "internal/bytealg.MaxLen"], plainKeys := false, apart := false, laid := [("unicode/utf8.acceptRanges", laid_unicode_utf8_acceptRanges), ("unicode/utf8.first", laid_unicode_utf8_first)], narrowed := true }
def AttrsKeepUptoSaid : Prop := attrsKeepUptoRow.holds Tryz.pinned (OpenSpec.upto attrsKeepSpec)

/-- 'glossatorlaw26.FoldsRise', WHERE WHAT IT READS IS OF BULK AT MOST 1048576: true; the input reads as it did. -/
def foldsRiseUptoRow : OpenClaim := { program := "ytkicpjjfeekopaagreatdoor", sum := "6ad36e2ceb3032039de01a79f1dcd72daedff1ec40c37c562c99ddf72f7a3e4c", func := "glossator/glossatorlaw26.FoldsRise", spec := "foldsRise", inPlace := ["internal/bytealg.IndexByteString", "internal/bytealg.IndexString", "internal/bytealg.CountString"], unfollowed := true, recurses := true, named := ["unicode/utf8.first", "unicode/utf8.acceptRanges", "internal/bytealg.MaxLen"], plainKeys := false, apart := false, laid := [("unicode/utf8.acceptRanges", laid_unicode_utf8_acceptRanges), ("unicode/utf8.first", laid_unicode_utf8_first)], narrowed := true }
def FoldsRiseUptoSaid : Prop := foldsRiseUptoRow.holds Tryz.pinned (OpenSpec.upto foldsRiseSpec)

/-- 'glossatorlaw27.ChainsRanges', WHERE WHAT IT READS IS OF BULK AT MOST 1048576: true; the input reads as it did. -/
def chainsRangesUptoRow : OpenClaim := { program := "ytkicpjjfeekopaagreatdoor", sum := "6ad36e2ceb3032039de01a79f1dcd72daedff1ec40c37c562c99ddf72f7a3e4c", func := "glossator/glossatorlaw27.ChainsRanges", spec := "chainsRanges", inPlace := ["internal/bytealg.IndexByteString", "internal/bytealg.IndexString", "internal/bytealg.CountString"], unfollowed := true, recurses := true, named := ["unicode/utf8.first", "unicode/utf8.acceptRanges", "internal/bytealg.MaxLen"], plainKeys := false, apart := false, laid := [("unicode/utf8.acceptRanges", laid_unicode_utf8_acceptRanges), ("unicode/utf8.first", laid_unicode_utf8_first)], narrowed := true }
def ChainsRangesUptoSaid : Prop := chainsRangesUptoRow.holds Tryz.pinned (OpenSpec.upto chainsRangesSpec)

/-- 'glossatorlaw26.FoldsJust', WHERE WHAT IT READS IS OF BULK AT MOST 1048576: true; the input reads as it did. -/
def foldsJustUptoRow : OpenClaim := { program := "ytkicpjjfeekopaagreatdoor", sum := "6ad36e2ceb3032039de01a79f1dcd72daedff1ec40c37c562c99ddf72f7a3e4c", func := "glossator/glossatorlaw26.FoldsJust", spec := "foldsJust", inPlace := ["internal/bytealg.IndexByteString", "internal/bytealg.IndexString", "internal/bytealg.CountString"], unfollowed := true, recurses := true, named := ["unicode/utf8.first", "unicode/utf8.acceptRanges", "internal/bytealg.MaxLen"], plainKeys := false, apart := false, laid := [("unicode/utf8.acceptRanges", laid_unicode_utf8_acceptRanges), ("unicode/utf8.first", laid_unicode_utf8_first)], narrowed := true }
def FoldsJustUptoSaid : Prop := foldsJustUptoRow.holds Tryz.pinned (OpenSpec.upto foldsJustSpec)

/-- 'glossatorlaw27.ChainsLeaves', WHERE WHAT IT READS IS OF BULK AT MOST 1048576: true; the input reads as it did. -/
def chainsLeavesUptoRow : OpenClaim := { program := "ytkicpjjfeekopaagreatdoor", sum := "6ad36e2ceb3032039de01a79f1dcd72daedff1ec40c37c562c99ddf72f7a3e4c", func := "glossator/glossatorlaw27.ChainsLeaves", spec := "chainsLeaves", inPlace := ["internal/bytealg.IndexByteString", "internal/bytealg.IndexString", "internal/bytealg.CountString"], unfollowed := true, recurses := true, named := ["unicode/utf8.first", "unicode/utf8.acceptRanges", "internal/bytealg.MaxLen"], plainKeys := false, apart := false, laid := [("unicode/utf8.acceptRanges", laid_unicode_utf8_acceptRanges), ("unicode/utf8.first", laid_unicode_utf8_first)], narrowed := true }
def ChainsLeavesUptoSaid : Prop := chainsLeavesUptoRow.holds Tryz.pinned (OpenSpec.upto chainsLeavesSpec)

/-- 'glossatorlaw27.ChainsWithin', WHERE WHAT IT READS IS OF BULK AT MOST 1048576: true; the input reads as it did. -/
def chainsWithinUptoRow : OpenClaim := { program := "ytkicpjjfeekopaagreatdoor", sum := "6ad36e2ceb3032039de01a79f1dcd72daedff1ec40c37c562c99ddf72f7a3e4c", func := "glossator/glossatorlaw27.ChainsWithin", spec := "chainsWithin", inPlace := ["internal/bytealg.IndexByteString", "internal/bytealg.IndexString", "internal/bytealg.CountString"], unfollowed := true, recurses := true, named := ["unicode/utf8.first", "unicode/utf8.acceptRanges", "internal/bytealg.MaxLen"], plainKeys := false, apart := false, laid := [("unicode/utf8.acceptRanges", laid_unicode_utf8_acceptRanges), ("unicode/utf8.first", laid_unicode_utf8_first)], narrowed := true }
def ChainsWithinUptoSaid : Prop := chainsWithinUptoRow.holds Tryz.pinned (OpenSpec.upto chainsWithinSpec)

end Rows
end Go.Proofs.YtkicpjjfeekopaaGreatDoor
