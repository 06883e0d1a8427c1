/-
  DERIVED. GIVEN WITH THE SEED: THE CARDS: each row of YtaagomchjklgaaaDoorRows.lean that lists a variable, with what it lists TIED to the program's text (the seventh form; the later family's looks); each row that meets fmt, with fmt's text TOLD by the authors' own Lean function (tested against real Go, not proved from fmt's source: count such statements apart). THE CARD IS WHAT COUNTS. Prove the row's statement (the work); the ties are given (YtaagomchjklgaaaDoorTie.lean); close each card by the builder's one call (the guide's Derived/Test/ToyasCard.lean, 'card_holds'). Laid BY PROGRAM, IN A SANDBOX (cutbox-door.mjs). By AI agents, Wed Nov 11 2026. No macro, syntax, notation, axiom, sorry.
-/
import Derived.Test.YtaagomchjklgaaaDoorRows
import GoSem.ClaimSeven
namespace Go.Proofs.YtaagomchjklgaaaDoor
namespace Rows

/-- THE TIED CARD OF 'laws.FnExactRepeatNext'. -/
def fnExactRepeatNextCard : Claim7 := { stood := { row := fnExactRepeatNextRow, standIns := [], harness := (true, "35110dbd73b1efe5fbb8a0878397814768b0912ef02c05fa830aa850bb35891f"), looks := false }, kinds := [], alts := [], laidByText := true, laidKinds := [.data], laidTests := true, laidLooks := .later }
def FnExactRepeatNextCardSaid : Prop := Claim7.holds Tryd.pinned (.plain (OpenSpec.ofChange fnExactRepeatNextSpec)) fnExactRepeatNextCard

/-- THE TIED CARD OF 'laws.FnExactRepeatAt'. -/
def fnExactRepeatAtCard : Claim7 := { stood := { row := fnExactRepeatAtRow, standIns := [], harness := (true, "35110dbd73b1efe5fbb8a0878397814768b0912ef02c05fa830aa850bb35891f"), looks := false }, kinds := [], alts := [], laidByText := true, laidKinds := [.data], laidTests := true, laidLooks := .later }
def FnExactRepeatAtCardSaid : Prop := Claim7.holds Tryd.pinned (.plain (OpenSpec.ofChange fnExactRepeatAtSpec)) fnExactRepeatAtCard

/-- THE TIED CARD OF 'laws.FnRepeatAt'. -/
def fnRepeatAtCard : Claim7 := { stood := { row := fnRepeatAtRow, standIns := [], harness := (true, "35110dbd73b1efe5fbb8a0878397814768b0912ef02c05fa830aa850bb35891f"), looks := false }, kinds := [], alts := [], laidByText := true, laidKinds := [.data], laidTests := true, laidLooks := .later }
def FnRepeatAtCardSaid : Prop := Claim7.holds Tryd.pinned (.plain (OpenSpec.ofChange fnRepeatAtSpec)) fnRepeatAtCard

/-- THE TIED CARD OF 'laws.FnRepeatAtPlus'. -/
def fnRepeatAtPlusCard : Claim7 := { stood := { row := fnRepeatAtPlusRow, standIns := [], harness := (true, "35110dbd73b1efe5fbb8a0878397814768b0912ef02c05fa830aa850bb35891f"), looks := false }, kinds := [], alts := [], laidByText := true, laidKinds := [.data], laidTests := true, laidLooks := .later }
def FnRepeatAtPlusCardSaid : Prop := Claim7.holds Tryd.pinned (.plain (OpenSpec.ofChange fnRepeatAtPlusSpec)) fnRepeatAtPlusCard

/-- THE TIED CARD OF 'laws.FnRepeatAtLater'. -/
def fnRepeatAtLaterCard : Claim7 := { stood := { row := fnRepeatAtLaterRow, standIns := [], harness := (true, "35110dbd73b1efe5fbb8a0878397814768b0912ef02c05fa830aa850bb35891f"), looks := false }, kinds := [], alts := [], laidByText := true, laidKinds := [.data], laidTests := true, laidLooks := .later }
def FnRepeatAtLaterCardSaid : Prop := Claim7.holds Tryd.pinned (.plain (OpenSpec.ofChange fnRepeatAtLaterSpec)) fnRepeatAtLaterCard

/-- THE TIED CARD OF 'laws.FnNext'. -/
def fnNextCard : Claim7 := { stood := { row := fnNextRow, standIns := [], harness := (true, "35110dbd73b1efe5fbb8a0878397814768b0912ef02c05fa830aa850bb35891f"), looks := false }, kinds := [], alts := [], laidByText := true, laidKinds := [.data], laidTests := true, laidLooks := .later }
def FnNextCardSaid : Prop := Claim7.holds Tryd.pinned (.plain (OpenSpec.ofChange fnNextSpec)) fnNextCard

/-- THE TIED CARD OF 'laws.FnNextAll'. -/
def fnNextAllCard : Claim7 := { stood := { row := fnNextAllRow, standIns := [], harness := (true, "35110dbd73b1efe5fbb8a0878397814768b0912ef02c05fa830aa850bb35891f"), looks := false }, kinds := [], alts := [], laidByText := true, laidKinds := [.data], laidTests := true, laidLooks := .later }
def FnNextAllCardSaid : Prop := Claim7.holds Tryd.pinned (.plain (OpenSpec.ofChange fnNextAllSpec)) fnNextAllCard

/-- THE SECOND FORM's CARD OF 'laws.FnExactRepeatNext'. -/
def fnExactRepeatNextUptoCard : Claim7 := { stood := { row := fnExactRepeatNextUptoRow, standIns := [], harness := (true, "35110dbd73b1efe5fbb8a0878397814768b0912ef02c05fa830aa850bb35891f"), looks := false }, kinds := [], alts := [], laidByText := true, laidKinds := [.data], laidTests := true, laidLooks := .later }
def FnExactRepeatNextUptoCardSaid : Prop := Claim7.holds Tryd.pinned (.plain (OpenSpec.upto fnExactRepeatNextSpec)) fnExactRepeatNextUptoCard

/-- THE SECOND FORM's CARD OF 'laws.FnExactRepeatAt'. -/
def fnExactRepeatAtUptoCard : Claim7 := { stood := { row := fnExactRepeatAtUptoRow, standIns := [], harness := (true, "35110dbd73b1efe5fbb8a0878397814768b0912ef02c05fa830aa850bb35891f"), looks := false }, kinds := [], alts := [], laidByText := true, laidKinds := [.data], laidTests := true, laidLooks := .later }
def FnExactRepeatAtUptoCardSaid : Prop := Claim7.holds Tryd.pinned (.plain (OpenSpec.upto fnExactRepeatAtSpec)) fnExactRepeatAtUptoCard

/-- THE SECOND FORM's CARD OF 'laws.FnRepeatAt'. -/
def fnRepeatAtUptoCard : Claim7 := { stood := { row := fnRepeatAtUptoRow, standIns := [], harness := (true, "35110dbd73b1efe5fbb8a0878397814768b0912ef02c05fa830aa850bb35891f"), looks := false }, kinds := [], alts := [], laidByText := true, laidKinds := [.data], laidTests := true, laidLooks := .later }
def FnRepeatAtUptoCardSaid : Prop := Claim7.holds Tryd.pinned (.plain (OpenSpec.upto fnRepeatAtSpec)) fnRepeatAtUptoCard

/-- THE SECOND FORM's CARD OF 'laws.FnRepeatAtPlus'. -/
def fnRepeatAtPlusUptoCard : Claim7 := { stood := { row := fnRepeatAtPlusUptoRow, standIns := [], harness := (true, "35110dbd73b1efe5fbb8a0878397814768b0912ef02c05fa830aa850bb35891f"), looks := false }, kinds := [], alts := [], laidByText := true, laidKinds := [.data], laidTests := true, laidLooks := .later }
def FnRepeatAtPlusUptoCardSaid : Prop := Claim7.holds Tryd.pinned (.plain (OpenSpec.upto fnRepeatAtPlusSpec)) fnRepeatAtPlusUptoCard

/-- THE SECOND FORM's CARD OF 'laws.FnRepeatAtLater'. -/
def fnRepeatAtLaterUptoCard : Claim7 := { stood := { row := fnRepeatAtLaterUptoRow, standIns := [], harness := (true, "35110dbd73b1efe5fbb8a0878397814768b0912ef02c05fa830aa850bb35891f"), looks := false }, kinds := [], alts := [], laidByText := true, laidKinds := [.data], laidTests := true, laidLooks := .later }
def FnRepeatAtLaterUptoCardSaid : Prop := Claim7.holds Tryd.pinned (.plain (OpenSpec.upto fnRepeatAtLaterSpec)) fnRepeatAtLaterUptoCard

/-- THE SECOND FORM's CARD OF 'laws.FnNext'. -/
def fnNextUptoCard : Claim7 := { stood := { row := fnNextUptoRow, standIns := [], harness := (true, "35110dbd73b1efe5fbb8a0878397814768b0912ef02c05fa830aa850bb35891f"), looks := false }, kinds := [], alts := [], laidByText := true, laidKinds := [.data], laidTests := true, laidLooks := .later }
def FnNextUptoCardSaid : Prop := Claim7.holds Tryd.pinned (.plain (OpenSpec.upto fnNextSpec)) fnNextUptoCard

/-- THE SECOND FORM's CARD OF 'laws.FnNextAll'. -/
def fnNextAllUptoCard : Claim7 := { stood := { row := fnNextAllUptoRow, standIns := [], harness := (true, "35110dbd73b1efe5fbb8a0878397814768b0912ef02c05fa830aa850bb35891f"), looks := false }, kinds := [], alts := [], laidByText := true, laidKinds := [.data], laidTests := true, laidLooks := .later }
def FnNextAllUptoCardSaid : Prop := Claim7.holds Tryd.pinned (.plain (OpenSpec.upto fnNextAllSpec)) fnNextAllUptoCard
end Rows
end Go.Proofs.YtaagomchjklgaaaDoor
