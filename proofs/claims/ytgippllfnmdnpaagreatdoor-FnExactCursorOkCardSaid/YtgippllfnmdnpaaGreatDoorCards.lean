/-
  DERIVED. GIVEN WITH THE SEED: THE CARDS: each row of YtgippllfnmdnpaaGreatDoorRows.lean that lists a variable, with what it lists TIED to the program's text (the seventh form; the later family's looks); each row that meets fmt, with fmt's text TOLD by the authors' own Lean function (tested against real Go, not proved from fmt's source: count such statements apart). THE CARD IS WHAT COUNTS. Prove the row's statement (the work); the ties are given (YtgippllfnmdnpaaGreatDoorTie.lean); close each card by the builder's one call (the guide's Derived/Test/ToyasCard.lean, 'card_holds'). Laid BY PROGRAM, IN A SANDBOX (cutbox-door.mjs). By AI agents, Wed Nov 11 2026. No macro, syntax, notation, axiom, sorry.
-/
import Derived.Test.YtgippllfnmdnpaaGreatDoorRows
import GoSem.ClaimSeven
namespace Go.Proofs.YtgippllfnmdnpaaGreatDoor
namespace Rows

/-- THE TIED CARD OF 'laws.FnParse'. -/
def fnParseCard : Claim7 := { stood := { row := fnParseRow, standIns := [], harness := (true, "d0fe93772344aec577757371c214af22f2460713fd3c248127ef10f817705425"), looks := false }, kinds := [], alts := [], laidByText := true, laidKinds := [.data, .pinned], laidTests := true, laidLooks := .later }
def FnParseCardSaid : Prop := Claim7.holds Tryz.pinned (.plain (OpenSpec.ofChange fnParseSpec)) fnParseCard

/-- THE TIED CARD OF 'laws.FnSkip'. -/
def fnSkipCard : Claim7 := { stood := { row := fnSkipRow, standIns := [], harness := (true, "d0fe93772344aec577757371c214af22f2460713fd3c248127ef10f817705425"), looks := false }, kinds := [], alts := [], laidByText := true, laidKinds := [.data, .pinned], laidTests := true, laidLooks := .later }
def FnSkipCardSaid : Prop := Claim7.holds Tryz.pinned (.plain (OpenSpec.ofChange fnSkipSpec)) fnSkipCard

/-- THE TIED CARD OF 'laws.FnDeep'. -/
def fnDeepCard : Claim7 := { stood := { row := fnDeepRow, standIns := [], harness := (true, "d0fe93772344aec577757371c214af22f2460713fd3c248127ef10f817705425"), looks := false }, kinds := [], alts := [], laidByText := true, laidKinds := [.data, .pinned], laidTests := true, laidLooks := .later }
def FnDeepCardSaid : Prop := Claim7.holds Tryz.pinned (.plain (OpenSpec.ofChange fnDeepSpec)) fnDeepCard

/-- THE TIED CARD OF 'laws.FnPlain'. -/
def fnPlainCard : Claim7 := { stood := { row := fnPlainRow, standIns := [], harness := (true, "d0fe93772344aec577757371c214af22f2460713fd3c248127ef10f817705425"), looks := false }, kinds := [], alts := [], laidByText := true, laidKinds := [.data, .pinned], laidTests := true, laidLooks := .later }
def FnPlainCardSaid : Prop := Claim7.holds Tryz.pinned (.plain (OpenSpec.ofChange fnPlainSpec)) fnPlainCard

/-- THE TIED CARD OF 'laws.FnNest'. -/
def fnNestCard : Claim7 := { stood := { row := fnNestRow, standIns := [], harness := (true, "d0fe93772344aec577757371c214af22f2460713fd3c248127ef10f817705425"), looks := false }, kinds := [], alts := [], laidByText := true, laidKinds := [.data, .pinned], laidTests := true, laidLooks := .later }
def FnNestCardSaid : Prop := Claim7.holds Tryz.pinned (.plain (OpenSpec.ofChange fnNestSpec)) fnNestCard

/-- THE TIED CARD OF 'laws.FnExactParseBytes'. -/
def fnExactParseBytesCard : Claim7 := { stood := { row := fnExactParseBytesRow, standIns := [], harness := (true, "d0fe93772344aec577757371c214af22f2460713fd3c248127ef10f817705425"), looks := false }, kinds := [], alts := [], laidByText := true, laidKinds := [.data, .pinned], laidTests := true, laidLooks := .later }
def FnExactParseBytesCardSaid : Prop := Claim7.holds Tryz.pinned (.plain (OpenSpec.ofChange fnExactParseBytesSpec)) fnExactParseBytesCard

/-- THE TIED CARD OF 'laws.FnExactCursorOk'. -/
def fnExactCursorOkCard : Claim7 := { stood := { row := fnExactCursorOkRow, standIns := [], harness := (true, "d0fe93772344aec577757371c214af22f2460713fd3c248127ef10f817705425"), looks := false }, kinds := [], alts := [], laidByText := true, laidKinds := [.data, .pinned], laidTests := true, laidLooks := .later }
def FnExactCursorOkCardSaid : Prop := Claim7.holds Tryz.pinned (.plain (OpenSpec.ofChange fnExactCursorOkSpec)) fnExactCursorOkCard

/-- THE TIED CARD OF 'laws.FnPull'. -/
def fnPullCard : Claim7 := { stood := { row := fnPullRow, standIns := [], harness := (true, "d0fe93772344aec577757371c214af22f2460713fd3c248127ef10f817705425"), looks := false }, kinds := [], alts := [], laidByText := true, laidKinds := [.data, .pinned], laidTests := true, laidLooks := .later }
def FnPullCardSaid : Prop := Claim7.holds Tryz.pinned (.plain (OpenSpec.ofChange fnPullSpec)) fnPullCard

/-- THE TIED CARD OF 'laws.FnExactCurDepth'. -/
def fnExactCurDepthCard : Claim7 := { stood := { row := fnExactCurDepthRow, standIns := [], harness := (true, "d0fe93772344aec577757371c214af22f2460713fd3c248127ef10f817705425"), looks := false }, kinds := [], alts := [], laidByText := true, laidKinds := [.data, .pinned], laidTests := true, laidLooks := .later }
def FnExactCurDepthCardSaid : Prop := Claim7.holds Tryz.pinned (.plain (OpenSpec.ofChange fnExactCurDepthSpec)) fnExactCurDepthCard

/-- THE TIED CARD OF 'laws.FnExactCurSize'. -/
def fnExactCurSizeCard : Claim7 := { stood := { row := fnExactCurSizeRow, standIns := [], harness := (true, "d0fe93772344aec577757371c214af22f2460713fd3c248127ef10f817705425"), looks := false }, kinds := [], alts := [], laidByText := true, laidKinds := [.data, .pinned], laidTests := true, laidLooks := .later }
def FnExactCurSizeCardSaid : Prop := Claim7.holds Tryz.pinned (.plain (OpenSpec.ofChange fnExactCurSizeSpec)) fnExactCurSizeCard

/-- THE TIED CARD OF 'laws.FnAlias'. -/
def fnAliasCard : Claim7 := { stood := { row := fnAliasRow, standIns := [], harness := (true, "d0fe93772344aec577757371c214af22f2460713fd3c248127ef10f817705425"), looks := false }, kinds := [], alts := [], laidByText := true, laidKinds := [.data, .pinned], laidTests := true, laidLooks := .later }
def FnAliasCardSaid : Prop := Claim7.holds Tryz.pinned (.plain (OpenSpec.ofChange fnAliasSpec)) fnAliasCard

/-- THE TIED CARD OF 'laws.FnExactCurPath'. -/
def fnExactCurPathCard : Claim7 := { stood := { row := fnExactCurPathRow, standIns := [], harness := (true, "d0fe93772344aec577757371c214af22f2460713fd3c248127ef10f817705425"), looks := false }, kinds := [], alts := [], laidByText := true, laidKinds := [.data, .pinned], laidTests := true, laidLooks := .later }
def FnExactCurPathCardSaid : Prop := Claim7.holds Tryz.pinned (.plain (OpenSpec.ofChange fnExactCurPathSpec)) fnExactCurPathCard

/-- THE SECOND FORM's CARD OF 'laws.FnParse'. -/
def fnParseUptoCard : Claim7 := { stood := { row := fnParseUptoRow, standIns := [], harness := (true, "d0fe93772344aec577757371c214af22f2460713fd3c248127ef10f817705425"), looks := false }, kinds := [], alts := [], laidByText := true, laidKinds := [.data, .pinned], laidTests := true, laidLooks := .later }
def FnParseUptoCardSaid : Prop := Claim7.holds Tryz.pinned (.plain (OpenSpec.upto fnParseSpec)) fnParseUptoCard

/-- THE SECOND FORM's CARD OF 'laws.FnSkip'. -/
def fnSkipUptoCard : Claim7 := { stood := { row := fnSkipUptoRow, standIns := [], harness := (true, "d0fe93772344aec577757371c214af22f2460713fd3c248127ef10f817705425"), looks := false }, kinds := [], alts := [], laidByText := true, laidKinds := [.data, .pinned], laidTests := true, laidLooks := .later }
def FnSkipUptoCardSaid : Prop := Claim7.holds Tryz.pinned (.plain (OpenSpec.upto fnSkipSpec)) fnSkipUptoCard

/-- THE SECOND FORM's CARD OF 'laws.FnDeep'. -/
def fnDeepUptoCard : Claim7 := { stood := { row := fnDeepUptoRow, standIns := [], harness := (true, "d0fe93772344aec577757371c214af22f2460713fd3c248127ef10f817705425"), looks := false }, kinds := [], alts := [], laidByText := true, laidKinds := [.data, .pinned], laidTests := true, laidLooks := .later }
def FnDeepUptoCardSaid : Prop := Claim7.holds Tryz.pinned (.plain (OpenSpec.upto fnDeepSpec)) fnDeepUptoCard

/-- THE SECOND FORM's CARD OF 'laws.FnPlain'. -/
def fnPlainUptoCard : Claim7 := { stood := { row := fnPlainUptoRow, standIns := [], harness := (true, "d0fe93772344aec577757371c214af22f2460713fd3c248127ef10f817705425"), looks := false }, kinds := [], alts := [], laidByText := true, laidKinds := [.data, .pinned], laidTests := true, laidLooks := .later }
def FnPlainUptoCardSaid : Prop := Claim7.holds Tryz.pinned (.plain (OpenSpec.upto fnPlainSpec)) fnPlainUptoCard

/-- THE SECOND FORM's CARD OF 'laws.FnNest'. -/
def fnNestUptoCard : Claim7 := { stood := { row := fnNestUptoRow, standIns := [], harness := (true, "d0fe93772344aec577757371c214af22f2460713fd3c248127ef10f817705425"), looks := false }, kinds := [], alts := [], laidByText := true, laidKinds := [.data, .pinned], laidTests := true, laidLooks := .later }
def FnNestUptoCardSaid : Prop := Claim7.holds Tryz.pinned (.plain (OpenSpec.upto fnNestSpec)) fnNestUptoCard

/-- THE SECOND FORM's CARD OF 'laws.FnExactParseBytes'. -/
def fnExactParseBytesUptoCard : Claim7 := { stood := { row := fnExactParseBytesUptoRow, standIns := [], harness := (true, "d0fe93772344aec577757371c214af22f2460713fd3c248127ef10f817705425"), looks := false }, kinds := [], alts := [], laidByText := true, laidKinds := [.data, .pinned], laidTests := true, laidLooks := .later }
def FnExactParseBytesUptoCardSaid : Prop := Claim7.holds Tryz.pinned (.plain (OpenSpec.upto fnExactParseBytesSpec)) fnExactParseBytesUptoCard

/-- THE SECOND FORM's CARD OF 'laws.FnExactCursorOk'. -/
def fnExactCursorOkUptoCard : Claim7 := { stood := { row := fnExactCursorOkUptoRow, standIns := [], harness := (true, "d0fe93772344aec577757371c214af22f2460713fd3c248127ef10f817705425"), looks := false }, kinds := [], alts := [], laidByText := true, laidKinds := [.data, .pinned], laidTests := true, laidLooks := .later }
def FnExactCursorOkUptoCardSaid : Prop := Claim7.holds Tryz.pinned (.plain (OpenSpec.upto fnExactCursorOkSpec)) fnExactCursorOkUptoCard

/-- THE SECOND FORM's CARD OF 'laws.FnPull'. -/
def fnPullUptoCard : Claim7 := { stood := { row := fnPullUptoRow, standIns := [], harness := (true, "d0fe93772344aec577757371c214af22f2460713fd3c248127ef10f817705425"), looks := false }, kinds := [], alts := [], laidByText := true, laidKinds := [.data, .pinned], laidTests := true, laidLooks := .later }
def FnPullUptoCardSaid : Prop := Claim7.holds Tryz.pinned (.plain (OpenSpec.upto fnPullSpec)) fnPullUptoCard

/-- THE SECOND FORM's CARD OF 'laws.FnExactCurDepth'. -/
def fnExactCurDepthUptoCard : Claim7 := { stood := { row := fnExactCurDepthUptoRow, standIns := [], harness := (true, "d0fe93772344aec577757371c214af22f2460713fd3c248127ef10f817705425"), looks := false }, kinds := [], alts := [], laidByText := true, laidKinds := [.data, .pinned], laidTests := true, laidLooks := .later }
def FnExactCurDepthUptoCardSaid : Prop := Claim7.holds Tryz.pinned (.plain (OpenSpec.upto fnExactCurDepthSpec)) fnExactCurDepthUptoCard

/-- THE SECOND FORM's CARD OF 'laws.FnExactCurSize'. -/
def fnExactCurSizeUptoCard : Claim7 := { stood := { row := fnExactCurSizeUptoRow, standIns := [], harness := (true, "d0fe93772344aec577757371c214af22f2460713fd3c248127ef10f817705425"), looks := false }, kinds := [], alts := [], laidByText := true, laidKinds := [.data, .pinned], laidTests := true, laidLooks := .later }
def FnExactCurSizeUptoCardSaid : Prop := Claim7.holds Tryz.pinned (.plain (OpenSpec.upto fnExactCurSizeSpec)) fnExactCurSizeUptoCard

/-- THE SECOND FORM's CARD OF 'laws.FnAlias'. -/
def fnAliasUptoCard : Claim7 := { stood := { row := fnAliasUptoRow, standIns := [], harness := (true, "d0fe93772344aec577757371c214af22f2460713fd3c248127ef10f817705425"), looks := false }, kinds := [], alts := [], laidByText := true, laidKinds := [.data, .pinned], laidTests := true, laidLooks := .later }
def FnAliasUptoCardSaid : Prop := Claim7.holds Tryz.pinned (.plain (OpenSpec.upto fnAliasSpec)) fnAliasUptoCard

/-- THE SECOND FORM's CARD OF 'laws.FnExactCurPath'. -/
def fnExactCurPathUptoCard : Claim7 := { stood := { row := fnExactCurPathUptoRow, standIns := [], harness := (true, "d0fe93772344aec577757371c214af22f2460713fd3c248127ef10f817705425"), looks := false }, kinds := [], alts := [], laidByText := true, laidKinds := [.data, .pinned], laidTests := true, laidLooks := .later }
def FnExactCurPathUptoCardSaid : Prop := Claim7.holds Tryz.pinned (.plain (OpenSpec.upto fnExactCurPathSpec)) fnExactCurPathUptoCard
end Rows
end Go.Proofs.YtgippllfnmdnpaaGreatDoor
