/-
  No cell of these rows narrows 'for every input' (looked for: loops, veiled, ifaces, maps, wideKeys, modest, calm, conditions, laid).
  DERIVED. THE GIVEN ROWS OF THIS SEAT. 9 by the template 'for every input the law returns true; each argument reads behind the call as it read before'; 0 by the template 'total and deterministic' (their statements: YtjphhddbkjdbnaaTotals.lean).
  GIVEN WITH THE SEED: the statements are not yours to turn. If you find one false, say at which input.
  Laid BY PROGRAM, IN A SANDBOX (cutbox-rows.mjs): the forced cells as the released guide's own fill.sh prints them over the translation 173ca11462b12d8d… (all of the seat's roots in one cut). By AI agents, Wed Nov 11 2026. No macro, syntax, notation, axiom, sorry.
-/
import Derived.Test.YtjphhddbkjdbnaaChecked
import GoSem.Claim
import GoSem.ClaimJoined
import GoSem.ClaimMapViews
import Derived.JoinedTies
import Derived.KernelRfl
namespace Go.Proofs.Ytjphhddbkjdbnaa
/- THE CELL 'sum', in the pinned program and in every row, IS THE sha256 OF THE DUMP (.gsa) THAT YtjphhddbkjdbnaaProg.lean LOADS. Nothing in Lean hashes anything: it is a label: what it is worth is what the hold of that sum in a sandbox is worth. -/
noncomputable def Try.pinned : Pinned := { name := "ytjphhddbkjdbnaa", sum := "173ca11462b12d8d03328fd39962a0ee3cb844392fa058175f6933d37b2bf8bd", checked := Try.checked }
namespace Rows
def none {H : Type} : Left H := { results := [], args := [] }

/-- 'laws.FnExactDefOf': WHATEVER THE INPUT: true; the input reads as it did. -/
def fnExactDefOfSpec : ChangeSpec := { name := "fnExactDefOf", fn := fun _ => fun
  | [d1, d2] => { results := [.lit (.bool true)], args := [d1, d2] }
  | _ => none }
def fnExactDefOfRow : OpenClaim := { program := "ytjphhddbkjdbnaa", sum := "173ca11462b12d8d03328fd39962a0ee3cb844392fa058175f6933d37b2bf8bd", func := "loop.example/g00666/laws.FnExactDefOf", spec := "fnExactDefOf", apart := false }
def FnExactDefOfSaid : Prop := fnExactDefOfRow.holds Try.pinned (OpenSpec.ofChange fnExactDefOfSpec)

/-- ITS FALSE NEIGHBOUR: 'it returns false'. Refute it at one input. -/
def fnExactDefOfWrong : ChangeSpec := { name := "fnExactDefOf", fn := fun _ => fun
  | [d1, d2] => { results := [.lit (.bool false)], args := [d1, d2] }
  | _ => none }
def FnExactDefOfWrongFalsely : Prop := fnExactDefOfRow.holds Try.pinned (OpenSpec.ofChange fnExactDefOfWrong)

/-- 'laws.FnExactTied': WHATEVER THE INPUT: true; the input reads as it did. -/
def fnExactTiedSpec : ChangeSpec := { name := "fnExactTied", fn := fun _ => fun
  | [d] => { results := [.lit (.bool true)], args := [d] }
  | _ => none }
def fnExactTiedRow : OpenClaim := { program := "ytjphhddbkjdbnaa", sum := "173ca11462b12d8d03328fd39962a0ee3cb844392fa058175f6933d37b2bf8bd", func := "loop.example/g00666/laws.FnExactTied", spec := "fnExactTied", apart := false }
def FnExactTiedSaid : Prop := fnExactTiedRow.holds Try.pinned (OpenSpec.ofChange fnExactTiedSpec)

/-- ITS FALSE NEIGHBOUR: 'it returns false'. Refute it at one input. -/
def fnExactTiedWrong : ChangeSpec := { name := "fnExactTied", fn := fun _ => fun
  | [d] => { results := [.lit (.bool false)], args := [d] }
  | _ => none }
def FnExactTiedWrongFalsely : Prop := fnExactTiedRow.holds Try.pinned (OpenSpec.ofChange fnExactTiedWrong)

/-- 'laws.FnExactKeyText': WHATEVER THE INPUT: true; the input reads as it did. -/
def fnExactKeyTextSpec : ChangeSpec := { name := "fnExactKeyText", fn := fun _ => fun
  | [d1, d2] => { results := [.lit (.bool true)], args := [d1, d2] }
  | _ => none }
def fnExactKeyTextRow : OpenClaim := { program := "ytjphhddbkjdbnaa", sum := "173ca11462b12d8d03328fd39962a0ee3cb844392fa058175f6933d37b2bf8bd", func := "loop.example/g00666/laws.FnExactKeyText", spec := "fnExactKeyText", apart := false }
def FnExactKeyTextSaid : Prop := fnExactKeyTextRow.holds Try.pinned (OpenSpec.ofChange fnExactKeyTextSpec)

/-- ITS FALSE NEIGHBOUR: 'it returns false'. Refute it at one input. -/
def fnExactKeyTextWrong : ChangeSpec := { name := "fnExactKeyText", fn := fun _ => fun
  | [d1, d2] => { results := [.lit (.bool false)], args := [d1, d2] }
  | _ => none }
def FnExactKeyTextWrongFalsely : Prop := fnExactKeyTextRow.holds Try.pinned (OpenSpec.ofChange fnExactKeyTextWrong)

/-- 'laws.FnExactRootsOf': WHATEVER THE INPUT: true; the input reads as it did. -/
def fnExactRootsOfSpec : ChangeSpec := { name := "fnExactRootsOf", fn := fun _ => fun
  | [d] => { results := [.lit (.bool true)], args := [d] }
  | _ => none }
def fnExactRootsOfRow : OpenClaim := { program := "ytjphhddbkjdbnaa", sum := "173ca11462b12d8d03328fd39962a0ee3cb844392fa058175f6933d37b2bf8bd", func := "loop.example/g00666/laws.FnExactRootsOf", spec := "fnExactRootsOf", apart := false }
def FnExactRootsOfSaid : Prop := fnExactRootsOfRow.holds Try.pinned (OpenSpec.ofChange fnExactRootsOfSpec)

/-- ITS FALSE NEIGHBOUR: 'it returns false'. Refute it at one input. -/
def fnExactRootsOfWrong : ChangeSpec := { name := "fnExactRootsOf", fn := fun _ => fun
  | [d] => { results := [.lit (.bool false)], args := [d] }
  | _ => none }
def FnExactRootsOfWrongFalsely : Prop := fnExactRootsOfRow.holds Try.pinned (OpenSpec.ofChange fnExactRootsOfWrong)

/-- 'laws.FnExactWhole': WHATEVER THE INPUT: true; the input reads as it did. -/
def fnExactWholeSpec : ChangeSpec := { name := "fnExactWhole", fn := fun _ => fun
  | [d] => { results := [.lit (.bool true)], args := [d] }
  | _ => none }
def fnExactWholeRow : OpenClaim := { program := "ytjphhddbkjdbnaa", sum := "173ca11462b12d8d03328fd39962a0ee3cb844392fa058175f6933d37b2bf8bd", func := "loop.example/g00666/laws.FnExactWhole", spec := "fnExactWhole", unfollowed := true, recurses := true, apart := false }
def FnExactWholeSaid : Prop := fnExactWholeRow.holds Try.pinned (OpenSpec.ofChange fnExactWholeSpec)

/-- ITS FALSE NEIGHBOUR: 'it returns false'. Refute it at one input. -/
def fnExactWholeWrong : ChangeSpec := { name := "fnExactWhole", fn := fun _ => fun
  | [d] => { results := [.lit (.bool false)], args := [d] }
  | _ => none }
def FnExactWholeWrongFalsely : Prop := fnExactWholeRow.holds Try.pinned (OpenSpec.ofChange fnExactWholeWrong)

/-- 'laws.FnExactKidsOf': WHATEVER THE INPUT: true; the input reads as it did. -/
def fnExactKidsOfSpec : ChangeSpec := { name := "fnExactKidsOf", fn := fun _ => fun
  | [d1, d2] => { results := [.lit (.bool true)], args := [d1, d2] }
  | _ => none }
def fnExactKidsOfRow : OpenClaim := { program := "ytjphhddbkjdbnaa", sum := "173ca11462b12d8d03328fd39962a0ee3cb844392fa058175f6933d37b2bf8bd", func := "loop.example/g00666/laws.FnExactKidsOf", spec := "fnExactKidsOf", apart := false }
def FnExactKidsOfSaid : Prop := fnExactKidsOfRow.holds Try.pinned (OpenSpec.ofChange fnExactKidsOfSpec)

/-- ITS FALSE NEIGHBOUR: 'it returns false'. Refute it at one input. -/
def fnExactKidsOfWrong : ChangeSpec := { name := "fnExactKidsOf", fn := fun _ => fun
  | [d1, d2] => { results := [.lit (.bool false)], args := [d1, d2] }
  | _ => none }
def FnExactKidsOfWrongFalsely : Prop := fnExactKidsOfRow.holds Try.pinned (OpenSpec.ofChange fnExactKidsOfWrong)

/-- 'laws.FnExactPathOf': WHATEVER THE INPUT: true; the input reads as it did. -/
def fnExactPathOfSpec : ChangeSpec := { name := "fnExactPathOf", fn := fun _ => fun
  | [d1, d2] => { results := [.lit (.bool true)], args := [d1, d2] }
  | _ => none }
def fnExactPathOfRow : OpenClaim := { program := "ytjphhddbkjdbnaa", sum := "173ca11462b12d8d03328fd39962a0ee3cb844392fa058175f6933d37b2bf8bd", func := "loop.example/g00666/laws.FnExactPathOf", spec := "fnExactPathOf", recurses := true, apart := false }
def FnExactPathOfSaid : Prop := fnExactPathOfRow.holds Try.pinned (OpenSpec.ofChange fnExactPathOfSpec)

/-- ITS FALSE NEIGHBOUR: 'it returns false'. Refute it at one input. -/
def fnExactPathOfWrong : ChangeSpec := { name := "fnExactPathOf", fn := fun _ => fun
  | [d1, d2] => { results := [.lit (.bool false)], args := [d1, d2] }
  | _ => none }
def FnExactPathOfWrongFalsely : Prop := fnExactPathOfRow.holds Try.pinned (OpenSpec.ofChange fnExactPathOfWrong)

/-- 'laws.FnExactCompose': WHATEVER THE INPUT: true; the input reads as it did. -/
def fnExactComposeSpec : ChangeSpec := { name := "fnExactCompose", fn := fun _ => fun
  | [d] => { results := [.lit (.bool true)], args := [d] }
  | _ => none }
def fnExactComposeRow : OpenClaim := { program := "ytjphhddbkjdbnaa", sum := "173ca11462b12d8d03328fd39962a0ee3cb844392fa058175f6933d37b2bf8bd", func := "loop.example/g00666/laws.FnExactCompose", spec := "fnExactCompose", unfollowed := true, recurses := true, apart := false }
def FnExactComposeSaid : Prop := fnExactComposeRow.holds Try.pinned (OpenSpec.ofChange fnExactComposeSpec)

/-- ITS FALSE NEIGHBOUR: 'it returns false'. Refute it at one input. -/
def fnExactComposeWrong : ChangeSpec := { name := "fnExactCompose", fn := fun _ => fun
  | [d] => { results := [.lit (.bool false)], args := [d] }
  | _ => none }
def FnExactComposeWrongFalsely : Prop := fnExactComposeRow.holds Try.pinned (OpenSpec.ofChange fnExactComposeWrong)

/-- 'laws.FnExactKeyAt': WHATEVER THE INPUT: true; the input reads as it did. -/
def fnExactKeyAtSpec : ChangeSpec := { name := "fnExactKeyAt", fn := fun _ => fun
  | [d1, d2] => { results := [.lit (.bool true)], args := [d1, d2] }
  | _ => none }
def fnExactKeyAtRow : OpenClaim := { program := "ytjphhddbkjdbnaa", sum := "173ca11462b12d8d03328fd39962a0ee3cb844392fa058175f6933d37b2bf8bd", func := "loop.example/g00666/laws.FnExactKeyAt", spec := "fnExactKeyAt", inPlace := ["internal/abi.NoEscape", "internal/bytealg.MakeNoZero", "internal/bytealg.IndexByteString", "internal/bytealg.IndexString"], named := ["internal/bytealg.MaxLen"], apart := false }
def FnExactKeyAtSaid : Prop := fnExactKeyAtRow.holds Try.pinned (OpenSpec.ofChange fnExactKeyAtSpec)

/-- ITS FALSE NEIGHBOUR: 'it returns false'. Refute it at one input. -/
def fnExactKeyAtWrong : ChangeSpec := { name := "fnExactKeyAt", fn := fun _ => fun
  | [d1, d2] => { results := [.lit (.bool false)], args := [d1, d2] }
  | _ => none }
def FnExactKeyAtWrongFalsely : Prop := fnExactKeyAtRow.holds Try.pinned (OpenSpec.ofChange fnExactKeyAtWrong)

/- THE SECOND FORM. 'bulk': how many values and letters a reading holds, each counted each time it is reached (what is shared counts as often as it is met; a slice's spare places count too). A statement '..UptoSaid' is the law's where the arguments, and the package variables that the reading takes, are together of bulk at most 1048576: NARROWER than '..Said'. Prove '..Said' where nothing that the law and all that it calls make is longer than what came in: it says more and counts as full. Else prove '..UptoSaid'. A law counts once. -/
mutual
def uptoBulk {H : Type} : DataW H → Nat
  | .lit (.string bytes) => bytes.length + 1
  | .lit _ => 1
  | .nil => 1
  | .ptr d => uptoBulk d + 1
  | .slice elems spare => uptoBulkAll elems + uptoBulkAll spare + 1
  | .agg parts => uptoBulkAll parts + 1
  | .iface _ d => uptoBulk d + 1
  | .map entries => uptoBulkEntries entries + 1
  | .held _ => 1
def uptoBulkAll {H : Type} : List (DataW H) → Nat
  | [] => 0
  | d :: r => uptoBulk d + uptoBulkAll r
def uptoBulkEntries {H : Type} : List (Lit × DataW H) → Nat
  | [] => 0
  | x :: r => uptoBulkEntry x + uptoBulkEntries r
def uptoBulkEntry {H : Type} : Lit × DataW H → Nat
  | (.string bytes, d) => bytes.length + uptoBulk d + 1
  | (_, d) => uptoBulk d + 1
 end
def uptoSmall : (H : Type) → List (DataW H) → Bool := fun _ ds => decide (uptoBulkAll ds ≤ 1048576)
def OpenSpec.upto (s : _root_.Go.ChangeSpec) : _root_.Go.OpenSpec := { _root_.Go.OpenSpec.ofChange s with cond := some uptoSmall }

/-- 'laws.FnExactDefOf', WHERE WHAT IT READS IS OF BULK AT MOST 1048576: true; the input reads as it did. -/
def fnExactDefOfUptoRow : OpenClaim := { program := "ytjphhddbkjdbnaa", sum := "173ca11462b12d8d03328fd39962a0ee3cb844392fa058175f6933d37b2bf8bd", func := "loop.example/g00666/laws.FnExactDefOf", spec := "fnExactDefOf", apart := false, narrowed := true }
def FnExactDefOfUptoSaid : Prop := fnExactDefOfUptoRow.holds Try.pinned (OpenSpec.upto fnExactDefOfSpec)

/-- 'laws.FnExactTied', WHERE WHAT IT READS IS OF BULK AT MOST 1048576: true; the input reads as it did. -/
def fnExactTiedUptoRow : OpenClaim := { program := "ytjphhddbkjdbnaa", sum := "173ca11462b12d8d03328fd39962a0ee3cb844392fa058175f6933d37b2bf8bd", func := "loop.example/g00666/laws.FnExactTied", spec := "fnExactTied", apart := false, narrowed := true }
def FnExactTiedUptoSaid : Prop := fnExactTiedUptoRow.holds Try.pinned (OpenSpec.upto fnExactTiedSpec)

/-- 'laws.FnExactKeyText', WHERE WHAT IT READS IS OF BULK AT MOST 1048576: true; the input reads as it did. -/
def fnExactKeyTextUptoRow : OpenClaim := { program := "ytjphhddbkjdbnaa", sum := "173ca11462b12d8d03328fd39962a0ee3cb844392fa058175f6933d37b2bf8bd", func := "loop.example/g00666/laws.FnExactKeyText", spec := "fnExactKeyText", apart := false, narrowed := true }
def FnExactKeyTextUptoSaid : Prop := fnExactKeyTextUptoRow.holds Try.pinned (OpenSpec.upto fnExactKeyTextSpec)

/-- 'laws.FnExactRootsOf', WHERE WHAT IT READS IS OF BULK AT MOST 1048576: true; the input reads as it did. -/
def fnExactRootsOfUptoRow : OpenClaim := { program := "ytjphhddbkjdbnaa", sum := "173ca11462b12d8d03328fd39962a0ee3cb844392fa058175f6933d37b2bf8bd", func := "loop.example/g00666/laws.FnExactRootsOf", spec := "fnExactRootsOf", apart := false, narrowed := true }
def FnExactRootsOfUptoSaid : Prop := fnExactRootsOfUptoRow.holds Try.pinned (OpenSpec.upto fnExactRootsOfSpec)

/-- 'laws.FnExactWhole', WHERE WHAT IT READS IS OF BULK AT MOST 1048576: true; the input reads as it did. -/
def fnExactWholeUptoRow : OpenClaim := { program := "ytjphhddbkjdbnaa", sum := "173ca11462b12d8d03328fd39962a0ee3cb844392fa058175f6933d37b2bf8bd", func := "loop.example/g00666/laws.FnExactWhole", spec := "fnExactWhole", unfollowed := true, recurses := true, apart := false, narrowed := true }
def FnExactWholeUptoSaid : Prop := fnExactWholeUptoRow.holds Try.pinned (OpenSpec.upto fnExactWholeSpec)

/-- 'laws.FnExactKidsOf', WHERE WHAT IT READS IS OF BULK AT MOST 1048576: true; the input reads as it did. -/
def fnExactKidsOfUptoRow : OpenClaim := { program := "ytjphhddbkjdbnaa", sum := "173ca11462b12d8d03328fd39962a0ee3cb844392fa058175f6933d37b2bf8bd", func := "loop.example/g00666/laws.FnExactKidsOf", spec := "fnExactKidsOf", apart := false, narrowed := true }
def FnExactKidsOfUptoSaid : Prop := fnExactKidsOfUptoRow.holds Try.pinned (OpenSpec.upto fnExactKidsOfSpec)

/-- 'laws.FnExactPathOf', WHERE WHAT IT READS IS OF BULK AT MOST 1048576: true; the input reads as it did. -/
def fnExactPathOfUptoRow : OpenClaim := { program := "ytjphhddbkjdbnaa", sum := "173ca11462b12d8d03328fd39962a0ee3cb844392fa058175f6933d37b2bf8bd", func := "loop.example/g00666/laws.FnExactPathOf", spec := "fnExactPathOf", recurses := true, apart := false, narrowed := true }
def FnExactPathOfUptoSaid : Prop := fnExactPathOfUptoRow.holds Try.pinned (OpenSpec.upto fnExactPathOfSpec)

/-- 'laws.FnExactCompose', WHERE WHAT IT READS IS OF BULK AT MOST 1048576: true; the input reads as it did. -/
def fnExactComposeUptoRow : OpenClaim := { program := "ytjphhddbkjdbnaa", sum := "173ca11462b12d8d03328fd39962a0ee3cb844392fa058175f6933d37b2bf8bd", func := "loop.example/g00666/laws.FnExactCompose", spec := "fnExactCompose", unfollowed := true, recurses := true, apart := false, narrowed := true }
def FnExactComposeUptoSaid : Prop := fnExactComposeUptoRow.holds Try.pinned (OpenSpec.upto fnExactComposeSpec)

/-- 'laws.FnExactKeyAt', WHERE WHAT IT READS IS OF BULK AT MOST 1048576: true; the input reads as it did. -/
def fnExactKeyAtUptoRow : OpenClaim := { program := "ytjphhddbkjdbnaa", sum := "173ca11462b12d8d03328fd39962a0ee3cb844392fa058175f6933d37b2bf8bd", func := "loop.example/g00666/laws.FnExactKeyAt", spec := "fnExactKeyAt", inPlace := ["internal/abi.NoEscape", "internal/bytealg.MakeNoZero", "internal/bytealg.IndexByteString", "internal/bytealg.IndexString"], named := ["internal/bytealg.MaxLen"], apart := false, narrowed := true }
def FnExactKeyAtUptoSaid : Prop := fnExactKeyAtUptoRow.holds Try.pinned (OpenSpec.upto fnExactKeyAtSpec)

end Rows
end Go.Proofs.Ytjphhddbkjdbnaa
