/-
  DERIVED. GIVEN WITH THE SEED: THE CARDS: each row of YtinemkjoohgmjaaDoorRows.lean that lists a variable, with what it lists TIED to the program's text (the seventh form; the later family's looks); each row that meets fmt, with fmt's text TOLD by the authors' own Lean function (tested against real Go, not proved from fmt's source: count such statements apart). THE CARD IS WHAT COUNTS. Prove the row's statement (the work); the ties are given (YtinemkjoohgmjaaDoorTie.lean); close each card by the builder's one call (the guide's Derived/Test/ToyasCard.lean, 'card_holds'). Laid BY PROGRAM, IN A SANDBOX (cutbox-door.mjs). By AI agents, Wed Nov 11 2026. No macro, syntax, notation, axiom, sorry.
-/
import Derived.Test.YtinemkjoohgmjaaDoorRows
import GoSem.ClaimSeven
namespace Go.Proofs.YtinemkjoohgmjaaDoor
namespace Rows

/-- THE TIED CARD OF 'laws.FnSpanTextParts'. -/
def fnSpanTextPartsCard : Claim7 := { stood := { row := fnSpanTextPartsRow, standIns := [], harness := (true, "67cf3b840867c7567142a76f6f1a86109af0617328c0778f0e6b9cb4e735d2c3"), looks := false }, kinds := [], alts := [], laidByText := true, laidKinds := [.data, .data, .pinned], laidTests := true, laidLooks := .later }
def FnSpanTextPartsCardSaid : Prop := Claim7.holds Tryd.pinned (.plain (OpenSpec.ofChange fnSpanTextPartsSpec)) fnSpanTextPartsCard

/-- THE TIED CARD OF 'laws.FnExactRepeatText'. -/
def fnExactRepeatTextCard : Claim7 := { stood := { row := fnExactRepeatTextRow, standIns := [], harness := (true, "67cf3b840867c7567142a76f6f1a86109af0617328c0778f0e6b9cb4e735d2c3"), looks := false }, kinds := [], alts := [], laidByText := true, laidKinds := [.data, .data, .data, .data, .data, .pinned], laidTests := true, laidLooks := .later }
def FnExactRepeatTextCardSaid : Prop := Claim7.holds Tryd.pinned (.plain (OpenSpec.ofChange fnExactRepeatTextSpec)) fnExactRepeatTextCard

/-- THE TIED CARD OF 'laws.FnRepeatTextParts'. -/
def fnRepeatTextPartsCard : Claim7 := { stood := { row := fnRepeatTextPartsRow, standIns := [], harness := (true, "67cf3b840867c7567142a76f6f1a86109af0617328c0778f0e6b9cb4e735d2c3"), looks := false }, kinds := [], alts := [], laidByText := true, laidKinds := [.data, .data, .data, .data, .data, .pinned], laidTests := true, laidLooks := .later }
def FnRepeatTextPartsCardSaid : Prop := Claim7.holds Tryd.pinned (.plain (OpenSpec.ofChange fnRepeatTextPartsSpec)) fnRepeatTextPartsCard

/-- THE TIED CARD OF 'laws.FnExactSpanText'. -/
def fnExactSpanTextCard : Claim7 := { stood := { row := fnExactSpanTextRow, standIns := [], harness := (true, "67cf3b840867c7567142a76f6f1a86109af0617328c0778f0e6b9cb4e735d2c3"), looks := false }, kinds := [], alts := [], laidByText := true, laidKinds := [.data, .data, .pinned], laidTests := true, laidLooks := .later }
def FnExactSpanTextCardSaid : Prop := Claim7.holds Tryd.pinned (.plain (OpenSpec.ofChange fnExactSpanTextSpec)) fnExactSpanTextCard

/-- THE SECOND FORM's CARD OF 'laws.FnSpanTextParts'. -/
def fnSpanTextPartsUptoCard : Claim7 := { stood := { row := fnSpanTextPartsUptoRow, standIns := [], harness := (true, "67cf3b840867c7567142a76f6f1a86109af0617328c0778f0e6b9cb4e735d2c3"), looks := false }, kinds := [], alts := [], laidByText := true, laidKinds := [.data, .data, .pinned], laidTests := true, laidLooks := .later }
def FnSpanTextPartsUptoCardSaid : Prop := Claim7.holds Tryd.pinned (.plain (OpenSpec.upto fnSpanTextPartsSpec)) fnSpanTextPartsUptoCard

/-- THE SECOND FORM's CARD OF 'laws.FnExactRepeatText'. -/
def fnExactRepeatTextUptoCard : Claim7 := { stood := { row := fnExactRepeatTextUptoRow, standIns := [], harness := (true, "67cf3b840867c7567142a76f6f1a86109af0617328c0778f0e6b9cb4e735d2c3"), looks := false }, kinds := [], alts := [], laidByText := true, laidKinds := [.data, .data, .data, .data, .data, .pinned], laidTests := true, laidLooks := .later }
def FnExactRepeatTextUptoCardSaid : Prop := Claim7.holds Tryd.pinned (.plain (OpenSpec.upto fnExactRepeatTextSpec)) fnExactRepeatTextUptoCard

/-- THE SECOND FORM's CARD OF 'laws.FnRepeatTextParts'. -/
def fnRepeatTextPartsUptoCard : Claim7 := { stood := { row := fnRepeatTextPartsUptoRow, standIns := [], harness := (true, "67cf3b840867c7567142a76f6f1a86109af0617328c0778f0e6b9cb4e735d2c3"), looks := false }, kinds := [], alts := [], laidByText := true, laidKinds := [.data, .data, .data, .data, .data, .pinned], laidTests := true, laidLooks := .later }
def FnRepeatTextPartsUptoCardSaid : Prop := Claim7.holds Tryd.pinned (.plain (OpenSpec.upto fnRepeatTextPartsSpec)) fnRepeatTextPartsUptoCard

/-- THE SECOND FORM's CARD OF 'laws.FnExactSpanText'. -/
def fnExactSpanTextUptoCard : Claim7 := { stood := { row := fnExactSpanTextUptoRow, standIns := [], harness := (true, "67cf3b840867c7567142a76f6f1a86109af0617328c0778f0e6b9cb4e735d2c3"), looks := false }, kinds := [], alts := [], laidByText := true, laidKinds := [.data, .data, .pinned], laidTests := true, laidLooks := .later }
def FnExactSpanTextUptoCardSaid : Prop := Claim7.holds Tryd.pinned (.plain (OpenSpec.upto fnExactSpanTextSpec)) fnExactSpanTextUptoCard
end Rows
end Go.Proofs.YtinemkjoohgmjaaDoor
