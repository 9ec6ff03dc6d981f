/-
  NARROWER THAN 'FOR EVERY INPUT', by the rows' own cells (each row's printed sentence says how): FnParse: laid · FnSkip: laid · FnDeep: laid · FnPlain: laid · FnNest: laid · FnExactParseBytes: laid · FnExactCursorOk: laid · FnPull: laid · FnExactCurDepth: laid · FnExactCurSize: laid · FnAlias: laid · FnExactCurPath: laid.
  DERIVED. THE GIVEN ROWS OF THIS SEAT. 12 by the template 'for every input the law returns true; each argument reads behind the call as it read before'; 0 by the template 'total and deterministic' (their statements: YtgippllfnmdnpaaGreatDoorTotals.lean).
  GIVEN WITH THE SEED: the statements are not yours to turn. If you find one false, say at which input.
  Laid BY PROGRAM, IN A SANDBOX (cutbox-rows.mjs): the forced cells as the released guide's own fill.sh prints them over the translation cf7ac3c85e055b4f… (all of the seat's roots in one cut). By AI agents, Wed Nov 11 2026. No macro, syntax, notation, axiom, sorry.
-/
import Derived.Test.YtgippllfnmdnpaaGreatDoorChecked
import GoSem.PinnedTables
import GoSem.Claim
import GoSem.ClaimJoined
import GoSem.ClaimMapViews
import Derived.JoinedTies
import Derived.KernelRfl
namespace Go.Proofs.YtgippllfnmdnpaaGreatDoor
/- THE CELL 'sum', in the pinned program and in every row, IS THE sha256 OF THE DUMP (.gsa) THAT YtgippllfnmdnpaaGreatDoorProg.lean LOADS. Nothing in Lean hashes anything: it is a label: what it is worth is what the hold of that sum in a sandbox is worth. -/
noncomputable def Tryz.pinned : Pinned := { name := "ytgippllfnmdnpaagreatdoor", sum := "cf7ac3c85e055b4fcdb1f3b1b80e8f666e4c143ce2d39fd0166206f5a58732da", checked := Tryz.checked }
namespace Rows
def none {H : Type} : Left H := { results := [], args := [] }

/- WHAT THE LISTED PACKAGE-LEVEL VARIABLES READ AS WHEN THE CALL BEGINS. Each datum BY PROGRAM (the guide's laid-datum.mjs) off the statement by which the dump's own 'gosem.cut.vars' lays the variable. In a bare row this is a premise. The card (YtgippllfnmdnpaaGreatDoorCards.lean) ties it to the program's text. -/
def laid_unicode_utf8_acceptRanges {H : Type} : DataW H := .agg [.agg [.lit (.int .u8 128), .lit (.int .u8 191)], .agg [.lit (.int .u8 160), .lit (.int .u8 191)], .agg [.lit (.int .u8 128), .lit (.int .u8 159)], .agg [.lit (.int .u8 144), .lit (.int .u8 191)], .agg [.lit (.int .u8 128), .lit (.int .u8 143)], .agg [.lit (.int .u8 0), .lit (.int .u8 0)], .agg [.lit (.int .u8 0), .lit (.int .u8 0)], .agg [.lit (.int .u8 0), .lit (.int .u8 0)], .agg [.lit (.int .u8 0), .lit (.int .u8 0)], .agg [.lit (.int .u8 0), .lit (.int .u8 0)], .agg [.lit (.int .u8 0), .lit (.int .u8 0)], .agg [.lit (.int .u8 0), .lit (.int .u8 0)], .agg [.lit (.int .u8 0), .lit (.int .u8 0)], .agg [.lit (.int .u8 0), .lit (.int .u8 0)], .agg [.lit (.int .u8 0), .lit (.int .u8 0)], .agg [.lit (.int .u8 0), .lit (.int .u8 0)]]
/-- One of Go's own tables, pinned by name: the form's constant. -/
def laid_unicode_utf8_first : DataW Unit := Go.Pinned.utf8First

/-- 'laws.FnParse': WHATEVER THE INPUT: true; the input reads as it did. -/
def fnParseSpec : ChangeSpec := { name := "fnParse", fn := fun _ => fun
  | [d] => { results := [.lit (.bool true)], args := [d] }
  | _ => none }
def fnParseRow : OpenClaim := { program := "ytgippllfnmdnpaagreatdoor", sum := "cf7ac3c85e055b4fcdb1f3b1b80e8f666e4c143ce2d39fd0166206f5a58732da", func := "loop.example/g00666/laws.FnParse", spec := "fnParse", inPlace := ["internal/bytealg.IndexByteString", "internal/abi.NoEscape", "internal/bytealg.MakeNoZero", "internal/bytealg.IndexString"], unfollowed := true, recurses := true, named := ["unicode/utf8.first", "unicode/utf8.acceptRanges", "internal/bytealg.MaxLen"], apart := false, laid := [("unicode/utf8.acceptRanges", laid_unicode_utf8_acceptRanges), ("unicode/utf8.first", laid_unicode_utf8_first)] }
def FnParseSaid : Prop := fnParseRow.holds Tryz.pinned (OpenSpec.ofChange fnParseSpec)

/-- ITS FALSE NEIGHBOUR: 'it returns false'. Refute it at one input. -/
def fnParseWrong : ChangeSpec := { name := "fnParse", fn := fun _ => fun
  | [d] => { results := [.lit (.bool false)], args := [d] }
  | _ => none }
def FnParseWrongFalsely : Prop := fnParseRow.holds Tryz.pinned (OpenSpec.ofChange fnParseWrong)

/-- 'laws.FnSkip': WHATEVER THE INPUT: true; the input reads as it did. -/
def fnSkipSpec : ChangeSpec := { name := "fnSkip", fn := fun _ => fun
  | [d] => { results := [.lit (.bool true)], args := [d] }
  | _ => none }
def fnSkipRow : OpenClaim := { program := "ytgippllfnmdnpaagreatdoor", sum := "cf7ac3c85e055b4fcdb1f3b1b80e8f666e4c143ce2d39fd0166206f5a58732da", func := "loop.example/g00666/laws.FnSkip", spec := "fnSkip", inPlace := ["internal/bytealg.IndexByteString", "internal/abi.NoEscape", "internal/bytealg.MakeNoZero", "internal/bytealg.IndexString"], unfollowed := true, recurses := true, named := ["unicode/utf8.first", "unicode/utf8.acceptRanges", "internal/bytealg.MaxLen"], apart := false, laid := [("unicode/utf8.acceptRanges", laid_unicode_utf8_acceptRanges), ("unicode/utf8.first", laid_unicode_utf8_first)] }
def FnSkipSaid : Prop := fnSkipRow.holds Tryz.pinned (OpenSpec.ofChange fnSkipSpec)

/-- ITS FALSE NEIGHBOUR: 'it returns false'. Refute it at one input. -/
def fnSkipWrong : ChangeSpec := { name := "fnSkip", fn := fun _ => fun
  | [d] => { results := [.lit (.bool false)], args := [d] }
  | _ => none }
def FnSkipWrongFalsely : Prop := fnSkipRow.holds Tryz.pinned (OpenSpec.ofChange fnSkipWrong)

/-- 'laws.FnDeep': WHATEVER THE INPUT: true; the input reads as it did. -/
def fnDeepSpec : ChangeSpec := { name := "fnDeep", fn := fun _ => fun
  | [d] => { results := [.lit (.bool true)], args := [d] }
  | _ => none }
def fnDeepRow : OpenClaim := { program := "ytgippllfnmdnpaagreatdoor", sum := "cf7ac3c85e055b4fcdb1f3b1b80e8f666e4c143ce2d39fd0166206f5a58732da", func := "loop.example/g00666/laws.FnDeep", spec := "fnDeep", inPlace := ["internal/bytealg.IndexByteString", "internal/abi.NoEscape", "internal/bytealg.MakeNoZero", "internal/bytealg.IndexString"], unfollowed := true, recurses := true, named := ["unicode/utf8.first", "unicode/utf8.acceptRanges", "internal/bytealg.MaxLen"], apart := false, laid := [("unicode/utf8.acceptRanges", laid_unicode_utf8_acceptRanges), ("unicode/utf8.first", laid_unicode_utf8_first)] }
def FnDeepSaid : Prop := fnDeepRow.holds Tryz.pinned (OpenSpec.ofChange fnDeepSpec)

/-- ITS FALSE NEIGHBOUR: 'it returns false'. Refute it at one input. -/
def fnDeepWrong : ChangeSpec := { name := "fnDeep", fn := fun _ => fun
  | [d] => { results := [.lit (.bool false)], args := [d] }
  | _ => none }
def FnDeepWrongFalsely : Prop := fnDeepRow.holds Tryz.pinned (OpenSpec.ofChange fnDeepWrong)

/-- 'laws.FnPlain': WHATEVER THE INPUT: true; the input reads as it did. -/
def fnPlainSpec : ChangeSpec := { name := "fnPlain", fn := fun _ => fun
  | [d] => { results := [.lit (.bool true)], args := [d] }
  | _ => none }
def fnPlainRow : OpenClaim := { program := "ytgippllfnmdnpaagreatdoor", sum := "cf7ac3c85e055b4fcdb1f3b1b80e8f666e4c143ce2d39fd0166206f5a58732da", func := "loop.example/g00666/laws.FnPlain", spec := "fnPlain", inPlace := ["internal/bytealg.IndexByteString", "internal/abi.NoEscape", "internal/bytealg.MakeNoZero", "internal/bytealg.IndexString"], unfollowed := true, recurses := true, named := ["internal/bytealg.MaxLen", "unicode/utf8.first", "unicode/utf8.acceptRanges"], apart := false, laid := [("unicode/utf8.acceptRanges", laid_unicode_utf8_acceptRanges), ("unicode/utf8.first", laid_unicode_utf8_first)] }
def FnPlainSaid : Prop := fnPlainRow.holds Tryz.pinned (OpenSpec.ofChange fnPlainSpec)

/-- ITS FALSE NEIGHBOUR: 'it returns false'. Refute it at one input. -/
def fnPlainWrong : ChangeSpec := { name := "fnPlain", fn := fun _ => fun
  | [d] => { results := [.lit (.bool false)], args := [d] }
  | _ => none }
def FnPlainWrongFalsely : Prop := fnPlainRow.holds Tryz.pinned (OpenSpec.ofChange fnPlainWrong)

/-- 'laws.FnNest': WHATEVER THE INPUT: true; the input reads as it did. -/
def fnNestSpec : ChangeSpec := { name := "fnNest", fn := fun _ => fun
  | [d] => { results := [.lit (.bool true)], args := [d] }
  | _ => none }
def fnNestRow : OpenClaim := { program := "ytgippllfnmdnpaagreatdoor", sum := "cf7ac3c85e055b4fcdb1f3b1b80e8f666e4c143ce2d39fd0166206f5a58732da", func := "loop.example/g00666/laws.FnNest", spec := "fnNest", inPlace := ["internal/bytealg.IndexByteString", "internal/abi.NoEscape", "internal/bytealg.MakeNoZero", "internal/bytealg.IndexString"], recurses := true, named := ["unicode/utf8.first", "unicode/utf8.acceptRanges", "internal/bytealg.MaxLen"], apart := false, laid := [("unicode/utf8.acceptRanges", laid_unicode_utf8_acceptRanges), ("unicode/utf8.first", laid_unicode_utf8_first)] }
def FnNestSaid : Prop := fnNestRow.holds Tryz.pinned (OpenSpec.ofChange fnNestSpec)

/-- ITS FALSE NEIGHBOUR: 'it returns false'. Refute it at one input. -/
def fnNestWrong : ChangeSpec := { name := "fnNest", fn := fun _ => fun
  | [d] => { results := [.lit (.bool false)], args := [d] }
  | _ => none }
def FnNestWrongFalsely : Prop := fnNestRow.holds Tryz.pinned (OpenSpec.ofChange fnNestWrong)

/-- 'laws.FnExactParseBytes': WHATEVER THE INPUT: true; the input reads as it did. -/
def fnExactParseBytesSpec : ChangeSpec := { name := "fnExactParseBytes", fn := fun _ => fun
  | [d] => { results := [.lit (.bool true)], args := [d] }
  | _ => none }
def fnExactParseBytesRow : OpenClaim := { program := "ytgippllfnmdnpaagreatdoor", sum := "cf7ac3c85e055b4fcdb1f3b1b80e8f666e4c143ce2d39fd0166206f5a58732da", func := "loop.example/g00666/laws.FnExactParseBytes", spec := "fnExactParseBytes", inPlace := ["internal/bytealg.IndexByteString", "internal/abi.NoEscape", "internal/bytealg.MakeNoZero", "internal/bytealg.IndexString"], recurses := true, named := ["unicode/utf8.first", "unicode/utf8.acceptRanges", "internal/bytealg.MaxLen"], apart := false, laid := [("unicode/utf8.acceptRanges", laid_unicode_utf8_acceptRanges), ("unicode/utf8.first", laid_unicode_utf8_first)] }
def FnExactParseBytesSaid : Prop := fnExactParseBytesRow.holds Tryz.pinned (OpenSpec.ofChange fnExactParseBytesSpec)

/-- ITS FALSE NEIGHBOUR: 'it returns false'. Refute it at one input. -/
def fnExactParseBytesWrong : ChangeSpec := { name := "fnExactParseBytes", fn := fun _ => fun
  | [d] => { results := [.lit (.bool false)], args := [d] }
  | _ => none }
def FnExactParseBytesWrongFalsely : Prop := fnExactParseBytesRow.holds Tryz.pinned (OpenSpec.ofChange fnExactParseBytesWrong)

/-- 'laws.FnExactCursorOk': WHATEVER THE INPUT: true; the input reads as it did. -/
def fnExactCursorOkSpec : ChangeSpec := { name := "fnExactCursorOk", fn := fun _ => fun
  | [d] => { results := [.lit (.bool true)], args := [d] }
  | _ => none }
def fnExactCursorOkRow : OpenClaim := { program := "ytgippllfnmdnpaagreatdoor", sum := "cf7ac3c85e055b4fcdb1f3b1b80e8f666e4c143ce2d39fd0166206f5a58732da", func := "loop.example/g00666/laws.FnExactCursorOk", spec := "fnExactCursorOk", inPlace := ["internal/bytealg.IndexByteString", "internal/abi.NoEscape", "internal/bytealg.MakeNoZero", "internal/bytealg.IndexString"], recurses := true, named := ["unicode/utf8.first", "unicode/utf8.acceptRanges", "internal/bytealg.MaxLen"], apart := false, laid := [("unicode/utf8.acceptRanges", laid_unicode_utf8_acceptRanges), ("unicode/utf8.first", laid_unicode_utf8_first)] }
def FnExactCursorOkSaid : Prop := fnExactCursorOkRow.holds Tryz.pinned (OpenSpec.ofChange fnExactCursorOkSpec)

/-- ITS FALSE NEIGHBOUR: 'it returns false'. Refute it at one input. -/
def fnExactCursorOkWrong : ChangeSpec := { name := "fnExactCursorOk", fn := fun _ => fun
  | [d] => { results := [.lit (.bool false)], args := [d] }
  | _ => none }
def FnExactCursorOkWrongFalsely : Prop := fnExactCursorOkRow.holds Tryz.pinned (OpenSpec.ofChange fnExactCursorOkWrong)

/-- 'laws.FnPull': WHATEVER THE INPUT: true; the input reads as it did. -/
def fnPullSpec : ChangeSpec := { name := "fnPull", fn := fun _ => fun
  | [d] => { results := [.lit (.bool true)], args := [d] }
  | _ => none }
def fnPullRow : OpenClaim := { program := "ytgippllfnmdnpaagreatdoor", sum := "cf7ac3c85e055b4fcdb1f3b1b80e8f666e4c143ce2d39fd0166206f5a58732da", func := "loop.example/g00666/laws.FnPull", spec := "fnPull", inPlace := ["internal/bytealg.IndexByteString", "internal/abi.NoEscape", "internal/bytealg.MakeNoZero", "internal/bytealg.IndexString"], unfollowed := true, recurses := true, named := ["unicode/utf8.first", "unicode/utf8.acceptRanges", "internal/bytealg.MaxLen"], apart := false, laid := [("unicode/utf8.acceptRanges", laid_unicode_utf8_acceptRanges), ("unicode/utf8.first", laid_unicode_utf8_first)] }
def FnPullSaid : Prop := fnPullRow.holds Tryz.pinned (OpenSpec.ofChange fnPullSpec)

/-- ITS FALSE NEIGHBOUR: 'it returns false'. Refute it at one input. -/
def fnPullWrong : ChangeSpec := { name := "fnPull", fn := fun _ => fun
  | [d] => { results := [.lit (.bool false)], args := [d] }
  | _ => none }
def FnPullWrongFalsely : Prop := fnPullRow.holds Tryz.pinned (OpenSpec.ofChange fnPullWrong)

/-- 'laws.FnExactCurDepth': WHATEVER THE INPUT: true; the input reads as it did. -/
def fnExactCurDepthSpec : ChangeSpec := { name := "fnExactCurDepth", fn := fun _ => fun
  | [d] => { results := [.lit (.bool true)], args := [d] }
  | _ => none }
def fnExactCurDepthRow : OpenClaim := { program := "ytgippllfnmdnpaagreatdoor", sum := "cf7ac3c85e055b4fcdb1f3b1b80e8f666e4c143ce2d39fd0166206f5a58732da", func := "loop.example/g00666/laws.FnExactCurDepth", spec := "fnExactCurDepth", inPlace := ["internal/bytealg.IndexByteString", "internal/abi.NoEscape", "internal/bytealg.MakeNoZero", "internal/bytealg.IndexString"], recurses := true, named := ["unicode/utf8.first", "unicode/utf8.acceptRanges", "internal/bytealg.MaxLen"], apart := false, laid := [("unicode/utf8.acceptRanges", laid_unicode_utf8_acceptRanges), ("unicode/utf8.first", laid_unicode_utf8_first)] }
def FnExactCurDepthSaid : Prop := fnExactCurDepthRow.holds Tryz.pinned (OpenSpec.ofChange fnExactCurDepthSpec)

/-- ITS FALSE NEIGHBOUR: 'it returns false'. Refute it at one input. -/
def fnExactCurDepthWrong : ChangeSpec := { name := "fnExactCurDepth", fn := fun _ => fun
  | [d] => { results := [.lit (.bool false)], args := [d] }
  | _ => none }
def FnExactCurDepthWrongFalsely : Prop := fnExactCurDepthRow.holds Tryz.pinned (OpenSpec.ofChange fnExactCurDepthWrong)

/-- 'laws.FnExactCurSize': WHATEVER THE INPUT: true; the input reads as it did. -/
def fnExactCurSizeSpec : ChangeSpec := { name := "fnExactCurSize", fn := fun _ => fun
  | [d] => { results := [.lit (.bool true)], args := [d] }
  | _ => none }
def fnExactCurSizeRow : OpenClaim := { program := "ytgippllfnmdnpaagreatdoor", sum := "cf7ac3c85e055b4fcdb1f3b1b80e8f666e4c143ce2d39fd0166206f5a58732da", func := "loop.example/g00666/laws.FnExactCurSize", spec := "fnExactCurSize", inPlace := ["internal/bytealg.IndexByteString", "internal/abi.NoEscape", "internal/bytealg.MakeNoZero", "internal/bytealg.IndexString"], recurses := true, named := ["unicode/utf8.first", "unicode/utf8.acceptRanges", "internal/bytealg.MaxLen"], apart := false, laid := [("unicode/utf8.acceptRanges", laid_unicode_utf8_acceptRanges), ("unicode/utf8.first", laid_unicode_utf8_first)] }
def FnExactCurSizeSaid : Prop := fnExactCurSizeRow.holds Tryz.pinned (OpenSpec.ofChange fnExactCurSizeSpec)

/-- ITS FALSE NEIGHBOUR: 'it returns false'. Refute it at one input. -/
def fnExactCurSizeWrong : ChangeSpec := { name := "fnExactCurSize", fn := fun _ => fun
  | [d] => { results := [.lit (.bool false)], args := [d] }
  | _ => none }
def FnExactCurSizeWrongFalsely : Prop := fnExactCurSizeRow.holds Tryz.pinned (OpenSpec.ofChange fnExactCurSizeWrong)

/-- 'laws.FnAlias': WHATEVER THE INPUT: true; the input reads as it did. -/
def fnAliasSpec : ChangeSpec := { name := "fnAlias", fn := fun _ => fun
  | [d] => { results := [.lit (.bool true)], args := [d] }
  | _ => none }
def fnAliasRow : OpenClaim := { program := "ytgippllfnmdnpaagreatdoor", sum := "cf7ac3c85e055b4fcdb1f3b1b80e8f666e4c143ce2d39fd0166206f5a58732da", func := "loop.example/g00666/laws.FnAlias", spec := "fnAlias", inPlace := ["internal/bytealg.IndexByteString", "internal/abi.NoEscape", "internal/bytealg.MakeNoZero", "internal/bytealg.IndexString"], unfollowed := true, recurses := true, named := ["unicode/utf8.first", "unicode/utf8.acceptRanges", "internal/bytealg.MaxLen"], apart := false, laid := [("unicode/utf8.acceptRanges", laid_unicode_utf8_acceptRanges), ("unicode/utf8.first", laid_unicode_utf8_first)] }
def FnAliasSaid : Prop := fnAliasRow.holds Tryz.pinned (OpenSpec.ofChange fnAliasSpec)

/-- ITS FALSE NEIGHBOUR: 'it returns false'. Refute it at one input. -/
def fnAliasWrong : ChangeSpec := { name := "fnAlias", fn := fun _ => fun
  | [d] => { results := [.lit (.bool false)], args := [d] }
  | _ => none }
def FnAliasWrongFalsely : Prop := fnAliasRow.holds Tryz.pinned (OpenSpec.ofChange fnAliasWrong)

/-- 'laws.FnExactCurPath': WHATEVER THE INPUT: true; the input reads as it did. -/
def fnExactCurPathSpec : ChangeSpec := { name := "fnExactCurPath", fn := fun _ => fun
  | [d] => { results := [.lit (.bool true)], args := [d] }
  | _ => none }
def fnExactCurPathRow : OpenClaim := { program := "ytgippllfnmdnpaagreatdoor", sum := "cf7ac3c85e055b4fcdb1f3b1b80e8f666e4c143ce2d39fd0166206f5a58732da", func := "loop.example/g00666/laws.FnExactCurPath", spec := "fnExactCurPath", inPlace := ["internal/bytealg.IndexByteString", "internal/abi.NoEscape", "internal/bytealg.MakeNoZero", "internal/bytealg.IndexString"], recurses := true, named := ["unicode/utf8.first", "unicode/utf8.acceptRanges", "internal/bytealg.MaxLen"], apart := false, laid := [("unicode/utf8.acceptRanges", laid_unicode_utf8_acceptRanges), ("unicode/utf8.first", laid_unicode_utf8_first)] }
def FnExactCurPathSaid : Prop := fnExactCurPathRow.holds Tryz.pinned (OpenSpec.ofChange fnExactCurPathSpec)

/-- ITS FALSE NEIGHBOUR: 'it returns false'. Refute it at one input. -/
def fnExactCurPathWrong : ChangeSpec := { name := "fnExactCurPath", fn := fun _ => fun
  | [d] => { results := [.lit (.bool false)], args := [d] }
  | _ => none }
def FnExactCurPathWrongFalsely : Prop := fnExactCurPathRow.holds Tryz.pinned (OpenSpec.ofChange fnExactCurPathWrong)

/- THE SECOND FORM. 'bulk': how many values and letters a reading holds, each counted each time it is reached (what is shared counts as often as it is met; a slice's spare places count too). A statement '..UptoSaid' is the law's where the arguments, and the package variables that the reading takes, are together of bulk at most 1048576: NARROWER than '..Said'. Prove '..Said' where nothing that the law and all that it calls make is longer than what came in: it says more and counts as full. Else prove '..UptoSaid'. A law counts once. -/
mutual
def uptoBulk {H : Type} : DataW H → Nat
  | .lit (.string bytes) => bytes.length + 1
  | .lit _ => 1
  | .nil => 1
  | .ptr d => uptoBulk d + 1
  | .slice elems spare => uptoBulkAll elems + uptoBulkAll spare + 1
  | .agg parts => uptoBulkAll parts + 1
  | .iface _ d => uptoBulk d + 1
  | .map entries => uptoBulkEntries entries + 1
  | .held _ => 1
def uptoBulkAll {H : Type} : List (DataW H) → Nat
  | [] => 0
  | d :: r => uptoBulk d + uptoBulkAll r
def uptoBulkEntries {H : Type} : List (Lit × DataW H) → Nat
  | [] => 0
  | x :: r => uptoBulkEntry x + uptoBulkEntries r
def uptoBulkEntry {H : Type} : Lit × DataW H → Nat
  | (.string bytes, d) => bytes.length + uptoBulk d + 1
  | (_, d) => uptoBulk d + 1
 end
def uptoSmall : (H : Type) → List (DataW H) → Bool := fun _ ds => decide (uptoBulkAll ds ≤ 1048576)
def OpenSpec.upto (s : _root_.Go.ChangeSpec) : _root_.Go.OpenSpec := { _root_.Go.OpenSpec.ofChange s with cond := some uptoSmall }

/-- 'laws.FnParse', WHERE WHAT IT READS IS OF BULK AT MOST 1048576: true; the input reads as it did. -/
def fnParseUptoRow : OpenClaim := { program := "ytgippllfnmdnpaagreatdoor", sum := "cf7ac3c85e055b4fcdb1f3b1b80e8f666e4c143ce2d39fd0166206f5a58732da", func := "loop.example/g00666/laws.FnParse", spec := "fnParse", inPlace := ["internal/bytealg.IndexByteString", "internal/abi.NoEscape", "internal/bytealg.MakeNoZero", "internal/bytealg.IndexString"], unfollowed := true, recurses := true, named := ["unicode/utf8.first", "unicode/utf8.acceptRanges", "internal/bytealg.MaxLen"], apart := false, laid := [("unicode/utf8.acceptRanges", laid_unicode_utf8_acceptRanges), ("unicode/utf8.first", laid_unicode_utf8_first)], narrowed := true }
def FnParseUptoSaid : Prop := fnParseUptoRow.holds Tryz.pinned (OpenSpec.upto fnParseSpec)

/-- 'laws.FnSkip', WHERE WHAT IT READS IS OF BULK AT MOST 1048576: true; the input reads as it did. -/
def fnSkipUptoRow : OpenClaim := { program := "ytgippllfnmdnpaagreatdoor", sum := "cf7ac3c85e055b4fcdb1f3b1b80e8f666e4c143ce2d39fd0166206f5a58732da", func := "loop.example/g00666/laws.FnSkip", spec := "fnSkip", inPlace := ["internal/bytealg.IndexByteString", "internal/abi.NoEscape", "internal/bytealg.MakeNoZero", "internal/bytealg.IndexString"], unfollowed := true, recurses := true, named := ["unicode/utf8.first", "unicode/utf8.acceptRanges", "internal/bytealg.MaxLen"], apart := false, laid := [("unicode/utf8.acceptRanges", laid_unicode_utf8_acceptRanges), ("unicode/utf8.first", laid_unicode_utf8_first)], narrowed := true }
def FnSkipUptoSaid : Prop := fnSkipUptoRow.holds Tryz.pinned (OpenSpec.upto fnSkipSpec)

/-- 'laws.FnDeep', WHERE WHAT IT READS IS OF BULK AT MOST 1048576: true; the input reads as it did. -/
def fnDeepUptoRow : OpenClaim := { program := "ytgippllfnmdnpaagreatdoor", sum := "cf7ac3c85e055b4fcdb1f3b1b80e8f666e4c143ce2d39fd0166206f5a58732da", func := "loop.example/g00666/laws.FnDeep", spec := "fnDeep", inPlace := ["internal/bytealg.IndexByteString", "internal/abi.NoEscape", "internal/bytealg.MakeNoZero", "internal/bytealg.IndexString"], unfollowed := true, recurses := true, named := ["unicode/utf8.first", "unicode/utf8.acceptRanges", "internal/bytealg.MaxLen"], apart := false, laid := [("unicode/utf8.acceptRanges", laid_unicode_utf8_acceptRanges), ("unicode/utf8.first", laid_unicode_utf8_first)], narrowed := true }
def FnDeepUptoSaid : Prop := fnDeepUptoRow.holds Tryz.pinned (OpenSpec.upto fnDeepSpec)

/-- 'laws.FnPlain', WHERE WHAT IT READS IS OF BULK AT MOST 1048576: true; the input reads as it did. -/
def fnPlainUptoRow : OpenClaim := { program := "ytgippllfnmdnpaagreatdoor", sum := "cf7ac3c85e055b4fcdb1f3b1b80e8f666e4c143ce2d39fd0166206f5a58732da", func := "loop.example/g00666/laws.FnPlain", spec := "fnPlain", inPlace := ["internal/bytealg.IndexByteString", "internal/abi.NoEscape", "internal/bytealg.MakeNoZero", "internal/bytealg.IndexString"], unfollowed := true, recurses := true, named := ["internal/bytealg.MaxLen", "unicode/utf8.first", "unicode/utf8.acceptRanges"], apart := false, laid := [("unicode/utf8.acceptRanges", laid_unicode_utf8_acceptRanges), ("unicode/utf8.first", laid_unicode_utf8_first)], narrowed := true }
def FnPlainUptoSaid : Prop := fnPlainUptoRow.holds Tryz.pinned (OpenSpec.upto fnPlainSpec)

/-- 'laws.FnNest', WHERE WHAT IT READS IS OF BULK AT MOST 1048576: true; the input reads as it did. -/
def fnNestUptoRow : OpenClaim := { program := "ytgippllfnmdnpaagreatdoor", sum := "cf7ac3c85e055b4fcdb1f3b1b80e8f666e4c143ce2d39fd0166206f5a58732da", func := "loop.example/g00666/laws.FnNest", spec := "fnNest", inPlace := ["internal/bytealg.IndexByteString", "internal/abi.NoEscape", "internal/bytealg.MakeNoZero", "internal/bytealg.IndexString"], recurses := true, named := ["unicode/utf8.first", "unicode/utf8.acceptRanges", "internal/bytealg.MaxLen"], apart := false, laid := [("unicode/utf8.acceptRanges", laid_unicode_utf8_acceptRanges), ("unicode/utf8.first", laid_unicode_utf8_first)], narrowed := true }
def FnNestUptoSaid : Prop := fnNestUptoRow.holds Tryz.pinned (OpenSpec.upto fnNestSpec)

/-- 'laws.FnExactParseBytes', WHERE WHAT IT READS IS OF BULK AT MOST 1048576: true; the input reads as it did. -/
def fnExactParseBytesUptoRow : OpenClaim := { program := "ytgippllfnmdnpaagreatdoor", sum := "cf7ac3c85e055b4fcdb1f3b1b80e8f666e4c143ce2d39fd0166206f5a58732da", func := "loop.example/g00666/laws.FnExactParseBytes", spec := "fnExactParseBytes", inPlace := ["internal/bytealg.IndexByteString", "internal/abi.NoEscape", "internal/bytealg.MakeNoZero", "internal/bytealg.IndexString"], recurses := true, named := ["unicode/utf8.first", "unicode/utf8.acceptRanges", "internal/bytealg.MaxLen"], apart := false, laid := [("unicode/utf8.acceptRanges", laid_unicode_utf8_acceptRanges), ("unicode/utf8.first", laid_unicode_utf8_first)], narrowed := true }
def FnExactParseBytesUptoSaid : Prop := fnExactParseBytesUptoRow.holds Tryz.pinned (OpenSpec.upto fnExactParseBytesSpec)

/-- 'laws.FnExactCursorOk', WHERE WHAT IT READS IS OF BULK AT MOST 1048576: true; the input reads as it did. -/
def fnExactCursorOkUptoRow : OpenClaim := { program := "ytgippllfnmdnpaagreatdoor", sum := "cf7ac3c85e055b4fcdb1f3b1b80e8f666e4c143ce2d39fd0166206f5a58732da", func := "loop.example/g00666/laws.FnExactCursorOk", spec := "fnExactCursorOk", inPlace := ["internal/bytealg.IndexByteString", "internal/abi.NoEscape", "internal/bytealg.MakeNoZero", "internal/bytealg.IndexString"], recurses := true, named := ["unicode/utf8.first", "unicode/utf8.acceptRanges", "internal/bytealg.MaxLen"], apart := false, laid := [("unicode/utf8.acceptRanges", laid_unicode_utf8_acceptRanges), ("unicode/utf8.first", laid_unicode_utf8_first)], narrowed := true }
def FnExactCursorOkUptoSaid : Prop := fnExactCursorOkUptoRow.holds Tryz.pinned (OpenSpec.upto fnExactCursorOkSpec)

/-- 'laws.FnPull', WHERE WHAT IT READS IS OF BULK AT MOST 1048576: true; the input reads as it did. -/
def fnPullUptoRow : OpenClaim := { program := "ytgippllfnmdnpaagreatdoor", sum := "cf7ac3c85e055b4fcdb1f3b1b80e8f666e4c143ce2d39fd0166206f5a58732da", func := "loop.example/g00666/laws.FnPull", spec := "fnPull", inPlace := ["internal/bytealg.IndexByteString", "internal/abi.NoEscape", "internal/bytealg.MakeNoZero", "internal/bytealg.IndexString"], unfollowed := true, recurses := true, named := ["unicode/utf8.first", "unicode/utf8.acceptRanges", "internal/bytealg.MaxLen"], apart := false, laid := [("unicode/utf8.acceptRanges", laid_unicode_utf8_acceptRanges), ("unicode/utf8.first", laid_unicode_utf8_first)], narrowed := true }
def FnPullUptoSaid : Prop := fnPullUptoRow.holds Tryz.pinned (OpenSpec.upto fnPullSpec)

/-- 'laws.FnExactCurDepth', WHERE WHAT IT READS IS OF BULK AT MOST 1048576: true; the input reads as it did. -/
def fnExactCurDepthUptoRow : OpenClaim := { program := "ytgippllfnmdnpaagreatdoor", sum := "cf7ac3c85e055b4fcdb1f3b1b80e8f666e4c143ce2d39fd0166206f5a58732da", func := "loop.example/g00666/laws.FnExactCurDepth", spec := "fnExactCurDepth", inPlace := ["internal/bytealg.IndexByteString", "internal/abi.NoEscape", "internal/bytealg.MakeNoZero", "internal/bytealg.IndexString"], recurses := true, named := ["unicode/utf8.first", "unicode/utf8.acceptRanges", "internal/bytealg.MaxLen"], apart := false, laid := [("unicode/utf8.acceptRanges", laid_unicode_utf8_acceptRanges), ("unicode/utf8.first", laid_unicode_utf8_first)], narrowed := true }
def FnExactCurDepthUptoSaid : Prop := fnExactCurDepthUptoRow.holds Tryz.pinned (OpenSpec.upto fnExactCurDepthSpec)

/-- 'laws.FnExactCurSize', WHERE WHAT IT READS IS OF BULK AT MOST 1048576: true; the input reads as it did. -/
def fnExactCurSizeUptoRow : OpenClaim := { program := "ytgippllfnmdnpaagreatdoor", sum := "cf7ac3c85e055b4fcdb1f3b1b80e8f666e4c143ce2d39fd0166206f5a58732da", func := "loop.example/g00666/laws.FnExactCurSize", spec := "fnExactCurSize", inPlace := ["internal/bytealg.IndexByteString", "internal/abi.NoEscape", "internal/bytealg.MakeNoZero", "internal/bytealg.IndexString"], recurses := true, named := ["unicode/utf8.first", "unicode/utf8.acceptRanges", "internal/bytealg.MaxLen"], apart := false, laid := [("unicode/utf8.acceptRanges", laid_unicode_utf8_acceptRanges), ("unicode/utf8.first", laid_unicode_utf8_first)], narrowed := true }
def FnExactCurSizeUptoSaid : Prop := fnExactCurSizeUptoRow.holds Tryz.pinned (OpenSpec.upto fnExactCurSizeSpec)

/-- 'laws.FnAlias', WHERE WHAT IT READS IS OF BULK AT MOST 1048576: true; the input reads as it did. -/
def fnAliasUptoRow : OpenClaim := { program := "ytgippllfnmdnpaagreatdoor", sum := "cf7ac3c85e055b4fcdb1f3b1b80e8f666e4c143ce2d39fd0166206f5a58732da", func := "loop.example/g00666/laws.FnAlias", spec := "fnAlias", inPlace := ["internal/bytealg.IndexByteString", "internal/abi.NoEscape", "internal/bytealg.MakeNoZero", "internal/bytealg.IndexString"], unfollowed := true, recurses := true, named := ["unicode/utf8.first", "unicode/utf8.acceptRanges", "internal/bytealg.MaxLen"], apart := false, laid := [("unicode/utf8.acceptRanges", laid_unicode_utf8_acceptRanges), ("unicode/utf8.first", laid_unicode_utf8_first)], narrowed := true }
def FnAliasUptoSaid : Prop := fnAliasUptoRow.holds Tryz.pinned (OpenSpec.upto fnAliasSpec)

/-- 'laws.FnExactCurPath', WHERE WHAT IT READS IS OF BULK AT MOST 1048576: true; the input reads as it did. -/
def fnExactCurPathUptoRow : OpenClaim := { program := "ytgippllfnmdnpaagreatdoor", sum := "cf7ac3c85e055b4fcdb1f3b1b80e8f666e4c143ce2d39fd0166206f5a58732da", func := "loop.example/g00666/laws.FnExactCurPath", spec := "fnExactCurPath", inPlace := ["internal/bytealg.IndexByteString", "internal/abi.NoEscape", "internal/bytealg.MakeNoZero", "internal/bytealg.IndexString"], recurses := true, named := ["unicode/utf8.first", "unicode/utf8.acceptRanges", "internal/bytealg.MaxLen"], apart := false, laid := [("unicode/utf8.acceptRanges", laid_unicode_utf8_acceptRanges), ("unicode/utf8.first", laid_unicode_utf8_first)], narrowed := true }
def FnExactCurPathUptoSaid : Prop := fnExactCurPathUptoRow.holds Tryz.pinned (OpenSpec.upto fnExactCurPathSpec)

end Rows
end Go.Proofs.YtgippllfnmdnpaaGreatDoor
