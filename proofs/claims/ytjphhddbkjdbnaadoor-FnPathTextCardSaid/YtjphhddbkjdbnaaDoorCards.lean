/-
  DERIVED. GIVEN WITH THE SEED: THE CARDS: each row of YtjphhddbkjdbnaaDoorRows.lean that lists a variable, with what it lists TIED to the program's text (the seventh form; the later family's looks); each row that meets fmt, with fmt's text TOLD by the authors' own Lean function (tested against real Go, not proved from fmt's source: count such statements apart). THE CARD IS WHAT COUNTS. Prove the row's statement (the work); the ties are given (YtjphhddbkjdbnaaDoorTie.lean); close each card by the builder's one call (the guide's Derived/Test/ToyasCard.lean, 'card_holds'). Laid BY PROGRAM, IN A SANDBOX (cutbox-door.mjs). By AI agents, Wed Nov 11 2026. No macro, syntax, notation, axiom, sorry.
-/
import Derived.Test.YtjphhddbkjdbnaaDoorRows
import GoSem.ClaimSeven
namespace Go.Proofs.YtjphhddbkjdbnaaDoor
namespace Rows

/-- THE TIED CARD OF 'laws.FnExactPathText'. -/
def fnExactPathTextCard : Claim7 := { stood := { row := fnExactPathTextRow, standIns := [], harness := (true, "26c7c103b36fe6eddc210d944b3fc4457e9a9509422ad9ce77081471af88e9e4"), looks := false }, kinds := [], alts := [], laidByText := true, laidKinds := [.data, .pinned], laidTests := true, laidLooks := .later }
def FnExactPathTextCardSaid : Prop := Claim7.holds Tryd.pinned (.plain (OpenSpec.ofChange fnExactPathTextSpec)) fnExactPathTextCard

/-- THE TIED CARD OF 'laws.FnPathText'. -/
def fnPathTextCard : Claim7 := { stood := { row := fnPathTextRow, standIns := [], harness := (true, "26c7c103b36fe6eddc210d944b3fc4457e9a9509422ad9ce77081471af88e9e4"), looks := false }, kinds := [], alts := [], laidByText := true, laidKinds := [.data, .pinned], laidTests := true, laidLooks := .later }
def FnPathTextCardSaid : Prop := Claim7.holds Tryd.pinned (.plain (OpenSpec.ofChange fnPathTextSpec)) fnPathTextCard

/-- THE TIED CARD OF 'laws.FnExactTextPath'. -/
def fnExactTextPathCard : Claim7 := { stood := { row := fnExactTextPathRow, standIns := [], harness := (true, "26c7c103b36fe6eddc210d944b3fc4457e9a9509422ad9ce77081471af88e9e4"), looks := false }, kinds := [], alts := [], laidByText := true, laidKinds := [.data, .pinned], laidTests := true, laidLooks := .later }
def FnExactTextPathCardSaid : Prop := Claim7.holds Tryd.pinned (.plain (OpenSpec.ofChange fnExactTextPathSpec)) fnExactTextPathCard

/-- THE SECOND FORM's CARD OF 'laws.FnExactPathText'. -/
def fnExactPathTextUptoCard : Claim7 := { stood := { row := fnExactPathTextUptoRow, standIns := [], harness := (true, "26c7c103b36fe6eddc210d944b3fc4457e9a9509422ad9ce77081471af88e9e4"), looks := false }, kinds := [], alts := [], laidByText := true, laidKinds := [.data, .pinned], laidTests := true, laidLooks := .later }
def FnExactPathTextUptoCardSaid : Prop := Claim7.holds Tryd.pinned (.plain (OpenSpec.upto fnExactPathTextSpec)) fnExactPathTextUptoCard

/-- THE SECOND FORM's CARD OF 'laws.FnPathText'. -/
def fnPathTextUptoCard : Claim7 := { stood := { row := fnPathTextUptoRow, standIns := [], harness := (true, "26c7c103b36fe6eddc210d944b3fc4457e9a9509422ad9ce77081471af88e9e4"), looks := false }, kinds := [], alts := [], laidByText := true, laidKinds := [.data, .pinned], laidTests := true, laidLooks := .later }
def FnPathTextUptoCardSaid : Prop := Claim7.holds Tryd.pinned (.plain (OpenSpec.upto fnPathTextSpec)) fnPathTextUptoCard

/-- THE SECOND FORM's CARD OF 'laws.FnExactTextPath'. -/
def fnExactTextPathUptoCard : Claim7 := { stood := { row := fnExactTextPathUptoRow, standIns := [], harness := (true, "26c7c103b36fe6eddc210d944b3fc4457e9a9509422ad9ce77081471af88e9e4"), looks := false }, kinds := [], alts := [], laidByText := true, laidKinds := [.data, .pinned], laidTests := true, laidLooks := .later }
def FnExactTextPathUptoCardSaid : Prop := Claim7.holds Tryd.pinned (.plain (OpenSpec.upto fnExactTextPathSpec)) fnExactTextPathUptoCard
end Rows
end Go.Proofs.YtjphhddbkjdbnaaDoor
