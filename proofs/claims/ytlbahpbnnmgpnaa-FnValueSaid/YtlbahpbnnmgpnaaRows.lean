/-
  No cell of these rows narrows 'for every input' (looked for: loops, veiled, ifaces, maps, wideKeys, modest, calm, conditions, laid).
  DERIVED. THE GIVEN ROWS OF THIS SEAT. 12 by the template 'for every input the law returns true; each argument reads behind the call as it read before'; 0 by the template 'total and deterministic' (their statements: YtlbahpbnnmgpnaaTotals.lean).
  GIVEN WITH THE SEED: the statements are not yours to turn. If you find one false, say at which input.
  Laid BY PROGRAM, IN A SANDBOX (cutbox-rows.mjs): the forced cells as the released guide's own fill.sh prints them over the translation 6cd499049caf2736… (all of the seat's roots in one cut). By AI agents, Wed Nov 11 2026. No macro, syntax, notation, axiom, sorry.
-/
import Derived.Test.YtlbahpbnnmgpnaaChecked
import GoSem.Claim
import GoSem.ClaimJoined
import GoSem.ClaimMapViews
import Derived.JoinedTies
import Derived.KernelRfl
namespace Go.Proofs.Ytlbahpbnnmgpnaa
/- THE CELL 'sum', in the pinned program and in every row, IS THE sha256 OF THE DUMP (.gsa) THAT YtlbahpbnnmgpnaaProg.lean LOADS. Nothing in Lean hashes anything: it is a label: what it is worth is what the hold of that sum in a sandbox is worth. -/
noncomputable def Try.pinned : Pinned := { name := "ytlbahpbnnmgpnaa", sum := "6cd499049caf2736192d651ab5bb29e5d44b978fe5fcac7277a81f87cbb8c00e", checked := Try.checked }
namespace Rows
def none {H : Type} : Left H := { results := [], args := [] }

/-- 'laws.FnExactSegOk': WHATEVER THE INPUT: true; the input reads as it did. -/
def fnExactSegOkSpec : ChangeSpec := { name := "fnExactSegOk", fn := fun _ => fun
  | [d] => { results := [.lit (.bool true)], args := [d] }
  | _ => none }
def fnExactSegOkRow : OpenClaim := { program := "ytlbahpbnnmgpnaa", sum := "6cd499049caf2736192d651ab5bb29e5d44b978fe5fcac7277a81f87cbb8c00e", func := "loop.example/g00666/laws.FnExactSegOk", spec := "fnExactSegOk", apart := false }
def FnExactSegOkSaid : Prop := fnExactSegOkRow.holds Try.pinned (OpenSpec.ofChange fnExactSegOkSpec)

/-- ITS FALSE NEIGHBOUR: 'it returns false'. Refute it at one input. -/
def fnExactSegOkWrong : ChangeSpec := { name := "fnExactSegOk", fn := fun _ => fun
  | [d] => { results := [.lit (.bool false)], args := [d] }
  | _ => none }
def FnExactSegOkWrongFalsely : Prop := fnExactSegOkRow.holds Try.pinned (OpenSpec.ofChange fnExactSegOkWrong)

/-- 'laws.FnExactValueText': WHATEVER THE INPUT: true; the input reads as it did. -/
def fnExactValueTextSpec : ChangeSpec := { name := "fnExactValueText", fn := fun _ => fun
  | [d] => { results := [.lit (.bool true)], args := [d] }
  | _ => none }
def fnExactValueTextRow : OpenClaim := { program := "ytlbahpbnnmgpnaa", sum := "6cd499049caf2736192d651ab5bb29e5d44b978fe5fcac7277a81f87cbb8c00e", func := "loop.example/g00666/laws.FnExactValueText", spec := "fnExactValueText", recurses := true, apart := false }
def FnExactValueTextSaid : Prop := fnExactValueTextRow.holds Try.pinned (OpenSpec.ofChange fnExactValueTextSpec)

/-- ITS FALSE NEIGHBOUR: 'it returns false'. Refute it at one input. -/
def fnExactValueTextWrong : ChangeSpec := { name := "fnExactValueText", fn := fun _ => fun
  | [d] => { results := [.lit (.bool false)], args := [d] }
  | _ => none }
def FnExactValueTextWrongFalsely : Prop := fnExactValueTextRow.holds Try.pinned (OpenSpec.ofChange fnExactValueTextWrong)

/-- 'laws.FnMatch': WHATEVER THE INPUT: true; the input reads as it did. -/
def fnMatchSpec : ChangeSpec := { name := "fnMatch", fn := fun _ => fun
  | [d] => { results := [.lit (.bool true)], args := [d] }
  | _ => none }
def fnMatchRow : OpenClaim := { program := "ytlbahpbnnmgpnaa", sum := "6cd499049caf2736192d651ab5bb29e5d44b978fe5fcac7277a81f87cbb8c00e", func := "loop.example/g00666/laws.FnMatch", spec := "fnMatch", apart := false }
def FnMatchSaid : Prop := fnMatchRow.holds Try.pinned (OpenSpec.ofChange fnMatchSpec)

/-- ITS FALSE NEIGHBOUR: 'it returns false'. Refute it at one input. -/
def fnMatchWrong : ChangeSpec := { name := "fnMatch", fn := fun _ => fun
  | [d] => { results := [.lit (.bool false)], args := [d] }
  | _ => none }
def FnMatchWrongFalsely : Prop := fnMatchRow.holds Try.pinned (OpenSpec.ofChange fnMatchWrong)

/-- 'laws.FnExactIntOf': WHATEVER THE INPUT: true; the input reads as it did. -/
def fnExactIntOfSpec : ChangeSpec := { name := "fnExactIntOf", fn := fun _ => fun
  | [d] => { results := [.lit (.bool true)], args := [d] }
  | _ => none }
def fnExactIntOfRow : OpenClaim := { program := "ytlbahpbnnmgpnaa", sum := "6cd499049caf2736192d651ab5bb29e5d44b978fe5fcac7277a81f87cbb8c00e", func := "loop.example/g00666/laws.FnExactIntOf", spec := "fnExactIntOf", apart := false }
def FnExactIntOfSaid : Prop := fnExactIntOfRow.holds Try.pinned (OpenSpec.ofChange fnExactIntOfSpec)

/-- ITS FALSE NEIGHBOUR: 'it returns false'. Refute it at one input. -/
def fnExactIntOfWrong : ChangeSpec := { name := "fnExactIntOf", fn := fun _ => fun
  | [d] => { results := [.lit (.bool false)], args := [d] }
  | _ => none }
def FnExactIntOfWrongFalsely : Prop := fnExactIntOfRow.holds Try.pinned (OpenSpec.ofChange fnExactIntOfWrong)

/-- 'laws.FnExactCurOpen': WHATEVER THE INPUT: true; the input reads as it did. -/
def fnExactCurOpenSpec : ChangeSpec := { name := "fnExactCurOpen", fn := fun _ => fun
  | [d] => { results := [.lit (.bool true)], args := [d] }
  | _ => none }
def fnExactCurOpenRow : OpenClaim := { program := "ytlbahpbnnmgpnaa", sum := "6cd499049caf2736192d651ab5bb29e5d44b978fe5fcac7277a81f87cbb8c00e", func := "loop.example/g00666/laws.FnExactCurOpen", spec := "fnExactCurOpen", apart := false }
def FnExactCurOpenSaid : Prop := fnExactCurOpenRow.holds Try.pinned (OpenSpec.ofChange fnExactCurOpenSpec)

/-- ITS FALSE NEIGHBOUR: 'it returns false'. Refute it at one input. -/
def fnExactCurOpenWrong : ChangeSpec := { name := "fnExactCurOpen", fn := fun _ => fun
  | [d] => { results := [.lit (.bool false)], args := [d] }
  | _ => none }
def FnExactCurOpenWrongFalsely : Prop := fnExactCurOpenRow.holds Try.pinned (OpenSpec.ofChange fnExactCurOpenWrong)

/-- 'laws.FnExactMatch': WHATEVER THE INPUT: true; the input reads as it did. -/
def fnExactMatchSpec : ChangeSpec := { name := "fnExactMatch", fn := fun _ => fun
  | [d1, d2] => { results := [.lit (.bool true)], args := [d1, d2] }
  | _ => none }
def fnExactMatchRow : OpenClaim := { program := "ytlbahpbnnmgpnaa", sum := "6cd499049caf2736192d651ab5bb29e5d44b978fe5fcac7277a81f87cbb8c00e", func := "loop.example/g00666/laws.FnExactMatch", spec := "fnExactMatch", recurses := true, apart := false }
def FnExactMatchSaid : Prop := fnExactMatchRow.holds Try.pinned (OpenSpec.ofChange fnExactMatchSpec)

/-- ITS FALSE NEIGHBOUR: 'it returns false'. Refute it at one input. -/
def fnExactMatchWrong : ChangeSpec := { name := "fnExactMatch", fn := fun _ => fun
  | [d1, d2] => { results := [.lit (.bool false)], args := [d1, d2] }
  | _ => none }
def FnExactMatchWrongFalsely : Prop := fnExactMatchRow.holds Try.pinned (OpenSpec.ofChange fnExactMatchWrong)

/-- 'laws.FnExactDirectiveAt': WHATEVER THE INPUT: true; the input reads as it did. -/
def fnExactDirectiveAtSpec : ChangeSpec := { name := "fnExactDirectiveAt", fn := fun _ => fun
  | [d1, d2] => { results := [.lit (.bool true)], args := [d1, d2] }
  | _ => none }
def fnExactDirectiveAtRow : OpenClaim := { program := "ytlbahpbnnmgpnaa", sum := "6cd499049caf2736192d651ab5bb29e5d44b978fe5fcac7277a81f87cbb8c00e", func := "loop.example/g00666/laws.FnExactDirectiveAt", spec := "fnExactDirectiveAt", inPlace := ["internal/bytealg.IndexByteString"], apart := false }
def FnExactDirectiveAtSaid : Prop := fnExactDirectiveAtRow.holds Try.pinned (OpenSpec.ofChange fnExactDirectiveAtSpec)

/-- ITS FALSE NEIGHBOUR: 'it returns false'. Refute it at one input. -/
def fnExactDirectiveAtWrong : ChangeSpec := { name := "fnExactDirectiveAt", fn := fun _ => fun
  | [d1, d2] => { results := [.lit (.bool false)], args := [d1, d2] }
  | _ => none }
def FnExactDirectiveAtWrongFalsely : Prop := fnExactDirectiveAtRow.holds Try.pinned (OpenSpec.ofChange fnExactDirectiveAtWrong)

/-- 'laws.FnValue': WHATEVER THE INPUT: true; the input reads as it did. -/
def fnValueSpec : ChangeSpec := { name := "fnValue", fn := fun _ => fun
  | [d] => { results := [.lit (.bool true)], args := [d] }
  | _ => none }
def fnValueRow : OpenClaim := { program := "ytlbahpbnnmgpnaa", sum := "6cd499049caf2736192d651ab5bb29e5d44b978fe5fcac7277a81f87cbb8c00e", func := "loop.example/g00666/laws.FnValue", spec := "fnValue", apart := false }
def FnValueSaid : Prop := fnValueRow.holds Try.pinned (OpenSpec.ofChange fnValueSpec)

/-- ITS FALSE NEIGHBOUR: 'it returns false'. Refute it at one input. -/
def fnValueWrong : ChangeSpec := { name := "fnValue", fn := fun _ => fun
  | [d] => { results := [.lit (.bool false)], args := [d] }
  | _ => none }
def FnValueWrongFalsely : Prop := fnValueRow.holds Try.pinned (OpenSpec.ofChange fnValueWrong)

/-- 'laws.FnExactNested': WHATEVER THE INPUT: true; the input reads as it did. -/
def fnExactNestedSpec : ChangeSpec := { name := "fnExactNested", fn := fun _ => fun
  | [d] => { results := [.lit (.bool true)], args := [d] }
  | _ => none }
def fnExactNestedRow : OpenClaim := { program := "ytlbahpbnnmgpnaa", sum := "6cd499049caf2736192d651ab5bb29e5d44b978fe5fcac7277a81f87cbb8c00e", func := "loop.example/g00666/laws.FnExactNested", spec := "fnExactNested", apart := false }
def FnExactNestedSaid : Prop := fnExactNestedRow.holds Try.pinned (OpenSpec.ofChange fnExactNestedSpec)

/-- ITS FALSE NEIGHBOUR: 'it returns false'. Refute it at one input. -/
def fnExactNestedWrong : ChangeSpec := { name := "fnExactNested", fn := fun _ => fun
  | [d] => { results := [.lit (.bool false)], args := [d] }
  | _ => none }
def FnExactNestedWrongFalsely : Prop := fnExactNestedRow.holds Try.pinned (OpenSpec.ofChange fnExactNestedWrong)

/-- 'laws.FnExactValueOf': WHATEVER THE INPUT: true; the input reads as it did. -/
def fnExactValueOfSpec : ChangeSpec := { name := "fnExactValueOf", fn := fun _ => fun
  | [d] => { results := [.lit (.bool true)], args := [d] }
  | _ => none }
def fnExactValueOfRow : OpenClaim := { program := "ytlbahpbnnmgpnaa", sum := "6cd499049caf2736192d651ab5bb29e5d44b978fe5fcac7277a81f87cbb8c00e", func := "loop.example/g00666/laws.FnExactValueOf", spec := "fnExactValueOf", apart := false }
def FnExactValueOfSaid : Prop := fnExactValueOfRow.holds Try.pinned (OpenSpec.ofChange fnExactValueOfSpec)

/-- ITS FALSE NEIGHBOUR: 'it returns false'. Refute it at one input. -/
def fnExactValueOfWrong : ChangeSpec := { name := "fnExactValueOf", fn := fun _ => fun
  | [d] => { results := [.lit (.bool false)], args := [d] }
  | _ => none }
def FnExactValueOfWrongFalsely : Prop := fnExactValueOfRow.holds Try.pinned (OpenSpec.ofChange fnExactValueOfWrong)

/-- 'laws.FnExactUpOf': WHATEVER THE INPUT: true; the input reads as it did. -/
def fnExactUpOfSpec : ChangeSpec := { name := "fnExactUpOf", fn := fun _ => fun
  | [d1, d2] => { results := [.lit (.bool true)], args := [d1, d2] }
  | _ => none }
def fnExactUpOfRow : OpenClaim := { program := "ytlbahpbnnmgpnaa", sum := "6cd499049caf2736192d651ab5bb29e5d44b978fe5fcac7277a81f87cbb8c00e", func := "loop.example/g00666/laws.FnExactUpOf", spec := "fnExactUpOf", apart := false }
def FnExactUpOfSaid : Prop := fnExactUpOfRow.holds Try.pinned (OpenSpec.ofChange fnExactUpOfSpec)

/-- ITS FALSE NEIGHBOUR: 'it returns false'. Refute it at one input. -/
def fnExactUpOfWrong : ChangeSpec := { name := "fnExactUpOf", fn := fun _ => fun
  | [d1, d2] => { results := [.lit (.bool false)], args := [d1, d2] }
  | _ => none }
def FnExactUpOfWrongFalsely : Prop := fnExactUpOfRow.holds Try.pinned (OpenSpec.ofChange fnExactUpOfWrong)

/-- 'laws.FnExactEndOf': WHATEVER THE INPUT: true; the input reads as it did. -/
def fnExactEndOfSpec : ChangeSpec := { name := "fnExactEndOf", fn := fun _ => fun
  | [d1, d2] => { results := [.lit (.bool true)], args := [d1, d2] }
  | _ => none }
def fnExactEndOfRow : OpenClaim := { program := "ytlbahpbnnmgpnaa", sum := "6cd499049caf2736192d651ab5bb29e5d44b978fe5fcac7277a81f87cbb8c00e", func := "loop.example/g00666/laws.FnExactEndOf", spec := "fnExactEndOf", apart := false }
def FnExactEndOfSaid : Prop := fnExactEndOfRow.holds Try.pinned (OpenSpec.ofChange fnExactEndOfSpec)

/-- ITS FALSE NEIGHBOUR: 'it returns false'. Refute it at one input. -/
def fnExactEndOfWrong : ChangeSpec := { name := "fnExactEndOf", fn := fun _ => fun
  | [d1, d2] => { results := [.lit (.bool false)], args := [d1, d2] }
  | _ => none }
def FnExactEndOfWrongFalsely : Prop := fnExactEndOfRow.holds Try.pinned (OpenSpec.ofChange fnExactEndOfWrong)

/- THE SECOND FORM. 'bulk': how many values and letters a reading holds, each counted each time it is reached (what is shared counts as often as it is met; a slice's spare places count too). A statement '..UptoSaid' is the law's where the arguments, and the package variables that the reading takes, are together of bulk at most 1048576: NARROWER than '..Said'. Prove '..Said' where nothing that the law and all that it calls make is longer than what came in: it says more and counts as full. Else prove '..UptoSaid'. A law counts once. -/
mutual
def uptoBulk {H : Type} : DataW H → Nat
  | .lit (.string bytes) => bytes.length + 1
  | .lit _ => 1
  | .nil => 1
  | .ptr d => uptoBulk d + 1
  | .slice elems spare => uptoBulkAll elems + uptoBulkAll spare + 1
  | .agg parts => uptoBulkAll parts + 1
  | .iface _ d => uptoBulk d + 1
  | .map entries => uptoBulkEntries entries + 1
  | .held _ => 1
def uptoBulkAll {H : Type} : List (DataW H) → Nat
  | [] => 0
  | d :: r => uptoBulk d + uptoBulkAll r
def uptoBulkEntries {H : Type} : List (Lit × DataW H) → Nat
  | [] => 0
  | x :: r => uptoBulkEntry x + uptoBulkEntries r
def uptoBulkEntry {H : Type} : Lit × DataW H → Nat
  | (.string bytes, d) => bytes.length + uptoBulk d + 1
  | (_, d) => uptoBulk d + 1
 end
def uptoSmall : (H : Type) → List (DataW H) → Bool := fun _ ds => decide (uptoBulkAll ds ≤ 1048576)
def OpenSpec.upto (s : _root_.Go.ChangeSpec) : _root_.Go.OpenSpec := { _root_.Go.OpenSpec.ofChange s with cond := some uptoSmall }

/-- 'laws.FnExactSegOk', WHERE WHAT IT READS IS OF BULK AT MOST 1048576: true; the input reads as it did. -/
def fnExactSegOkUptoRow : OpenClaim := { program := "ytlbahpbnnmgpnaa", sum := "6cd499049caf2736192d651ab5bb29e5d44b978fe5fcac7277a81f87cbb8c00e", func := "loop.example/g00666/laws.FnExactSegOk", spec := "fnExactSegOk", apart := false, narrowed := true }
def FnExactSegOkUptoSaid : Prop := fnExactSegOkUptoRow.holds Try.pinned (OpenSpec.upto fnExactSegOkSpec)

/-- 'laws.FnExactValueText', WHERE WHAT IT READS IS OF BULK AT MOST 1048576: true; the input reads as it did. -/
def fnExactValueTextUptoRow : OpenClaim := { program := "ytlbahpbnnmgpnaa", sum := "6cd499049caf2736192d651ab5bb29e5d44b978fe5fcac7277a81f87cbb8c00e", func := "loop.example/g00666/laws.FnExactValueText", spec := "fnExactValueText", recurses := true, apart := false, narrowed := true }
def FnExactValueTextUptoSaid : Prop := fnExactValueTextUptoRow.holds Try.pinned (OpenSpec.upto fnExactValueTextSpec)

/-- 'laws.FnMatch', WHERE WHAT IT READS IS OF BULK AT MOST 1048576: true; the input reads as it did. -/
def fnMatchUptoRow : OpenClaim := { program := "ytlbahpbnnmgpnaa", sum := "6cd499049caf2736192d651ab5bb29e5d44b978fe5fcac7277a81f87cbb8c00e", func := "loop.example/g00666/laws.FnMatch", spec := "fnMatch", apart := false, narrowed := true }
def FnMatchUptoSaid : Prop := fnMatchUptoRow.holds Try.pinned (OpenSpec.upto fnMatchSpec)

/-- 'laws.FnExactIntOf', WHERE WHAT IT READS IS OF BULK AT MOST 1048576: true; the input reads as it did. -/
def fnExactIntOfUptoRow : OpenClaim := { program := "ytlbahpbnnmgpnaa", sum := "6cd499049caf2736192d651ab5bb29e5d44b978fe5fcac7277a81f87cbb8c00e", func := "loop.example/g00666/laws.FnExactIntOf", spec := "fnExactIntOf", apart := false, narrowed := true }
def FnExactIntOfUptoSaid : Prop := fnExactIntOfUptoRow.holds Try.pinned (OpenSpec.upto fnExactIntOfSpec)

/-- 'laws.FnExactCurOpen', WHERE WHAT IT READS IS OF BULK AT MOST 1048576: true; the input reads as it did. -/
def fnExactCurOpenUptoRow : OpenClaim := { program := "ytlbahpbnnmgpnaa", sum := "6cd499049caf2736192d651ab5bb29e5d44b978fe5fcac7277a81f87cbb8c00e", func := "loop.example/g00666/laws.FnExactCurOpen", spec := "fnExactCurOpen", apart := false, narrowed := true }
def FnExactCurOpenUptoSaid : Prop := fnExactCurOpenUptoRow.holds Try.pinned (OpenSpec.upto fnExactCurOpenSpec)

/-- 'laws.FnExactMatch', WHERE WHAT IT READS IS OF BULK AT MOST 1048576: true; the input reads as it did. -/
def fnExactMatchUptoRow : OpenClaim := { program := "ytlbahpbnnmgpnaa", sum := "6cd499049caf2736192d651ab5bb29e5d44b978fe5fcac7277a81f87cbb8c00e", func := "loop.example/g00666/laws.FnExactMatch", spec := "fnExactMatch", recurses := true, apart := false, narrowed := true }
def FnExactMatchUptoSaid : Prop := fnExactMatchUptoRow.holds Try.pinned (OpenSpec.upto fnExactMatchSpec)

/-- 'laws.FnExactDirectiveAt', WHERE WHAT IT READS IS OF BULK AT MOST 1048576: true; the input reads as it did. -/
def fnExactDirectiveAtUptoRow : OpenClaim := { program := "ytlbahpbnnmgpnaa", sum := "6cd499049caf2736192d651ab5bb29e5d44b978fe5fcac7277a81f87cbb8c00e", func := "loop.example/g00666/laws.FnExactDirectiveAt", spec := "fnExactDirectiveAt", inPlace := ["internal/bytealg.IndexByteString"], apart := false, narrowed := true }
def FnExactDirectiveAtUptoSaid : Prop := fnExactDirectiveAtUptoRow.holds Try.pinned (OpenSpec.upto fnExactDirectiveAtSpec)

/-- 'laws.FnValue', WHERE WHAT IT READS IS OF BULK AT MOST 1048576: true; the input reads as it did. -/
def fnValueUptoRow : OpenClaim := { program := "ytlbahpbnnmgpnaa", sum := "6cd499049caf2736192d651ab5bb29e5d44b978fe5fcac7277a81f87cbb8c00e", func := "loop.example/g00666/laws.FnValue", spec := "fnValue", apart := false, narrowed := true }
def FnValueUptoSaid : Prop := fnValueUptoRow.holds Try.pinned (OpenSpec.upto fnValueSpec)

/-- 'laws.FnExactNested', WHERE WHAT IT READS IS OF BULK AT MOST 1048576: true; the input reads as it did. -/
def fnExactNestedUptoRow : OpenClaim := { program := "ytlbahpbnnmgpnaa", sum := "6cd499049caf2736192d651ab5bb29e5d44b978fe5fcac7277a81f87cbb8c00e", func := "loop.example/g00666/laws.FnExactNested", spec := "fnExactNested", apart := false, narrowed := true }
def FnExactNestedUptoSaid : Prop := fnExactNestedUptoRow.holds Try.pinned (OpenSpec.upto fnExactNestedSpec)

/-- 'laws.FnExactValueOf', WHERE WHAT IT READS IS OF BULK AT MOST 1048576: true; the input reads as it did. -/
def fnExactValueOfUptoRow : OpenClaim := { program := "ytlbahpbnnmgpnaa", sum := "6cd499049caf2736192d651ab5bb29e5d44b978fe5fcac7277a81f87cbb8c00e", func := "loop.example/g00666/laws.FnExactValueOf", spec := "fnExactValueOf", apart := false, narrowed := true }
def FnExactValueOfUptoSaid : Prop := fnExactValueOfUptoRow.holds Try.pinned (OpenSpec.upto fnExactValueOfSpec)

/-- 'laws.FnExactUpOf', WHERE WHAT IT READS IS OF BULK AT MOST 1048576: true; the input reads as it did. -/
def fnExactUpOfUptoRow : OpenClaim := { program := "ytlbahpbnnmgpnaa", sum := "6cd499049caf2736192d651ab5bb29e5d44b978fe5fcac7277a81f87cbb8c00e", func := "loop.example/g00666/laws.FnExactUpOf", spec := "fnExactUpOf", apart := false, narrowed := true }
def FnExactUpOfUptoSaid : Prop := fnExactUpOfUptoRow.holds Try.pinned (OpenSpec.upto fnExactUpOfSpec)

/-- 'laws.FnExactEndOf', WHERE WHAT IT READS IS OF BULK AT MOST 1048576: true; the input reads as it did. -/
def fnExactEndOfUptoRow : OpenClaim := { program := "ytlbahpbnnmgpnaa", sum := "6cd499049caf2736192d651ab5bb29e5d44b978fe5fcac7277a81f87cbb8c00e", func := "loop.example/g00666/laws.FnExactEndOf", spec := "fnExactEndOf", apart := false, narrowed := true }
def FnExactEndOfUptoSaid : Prop := fnExactEndOfUptoRow.holds Try.pinned (OpenSpec.upto fnExactEndOfSpec)

end Rows
end Go.Proofs.Ytlbahpbnnmgpnaa
