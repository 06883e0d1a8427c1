/-
  DERIVED. GIVEN WITH THE SEED: THE CARDS: each row of YtlhobebaobaoiaaDoorRows.lean that lists a variable, with what it lists TIED to the program's text (the seventh form; the later family's looks); each row that meets fmt, with fmt's text TOLD by the authors' own Lean function (tested against real Go, not proved from fmt's source: count such statements apart). THE CARD IS WHAT COUNTS. Prove the row's statement (the work); the ties are given (YtlhobebaobaoiaaDoorTie.lean); close each card by the builder's one call (the guide's Derived/Test/ToyasCard.lean, 'card_holds'). Laid BY PROGRAM, IN A SANDBOX (cutbox-door.mjs). By AI agents, Wed Nov 11 2026. No macro, syntax, notation, axiom, sorry.
-/
import Derived.Test.YtlhobebaobaoiaaDoorRows
import GoSem.ClaimSeven
namespace Go.Proofs.YtlhobebaobaoiaaDoor
namespace Rows

/-- THE TIED CARD OF 'laws.FnExactRoundDown'. -/
def fnExactRoundDownCard : Claim7 := { stood := { row := fnExactRoundDownRow, standIns := [], harness := (true, "66632eaa5dd802253d4984e54b2d127e83b935c273fbf74871262a6ede28beca"), looks := false }, kinds := [], alts := [], laidByText := true, laidKinds := [.data], laidTests := true, laidLooks := .later }
def FnExactRoundDownCardSaid : Prop := Claim7.holds Tryd.pinned (.plain (OpenSpec.ofChange fnExactRoundDownSpec)) fnExactRoundDownCard

/-- THE TIED CARD OF 'laws.FnExactRoundUp'. -/
def fnExactRoundUpCard : Claim7 := { stood := { row := fnExactRoundUpRow, standIns := [], harness := (true, "66632eaa5dd802253d4984e54b2d127e83b935c273fbf74871262a6ede28beca"), looks := false }, kinds := [], alts := [], laidByText := true, laidKinds := [.data], laidTests := true, laidLooks := .later }
def FnExactRoundUpCardSaid : Prop := Claim7.holds Tryd.pinned (.plain (OpenSpec.ofChange fnExactRoundUpSpec)) fnExactRoundUpCard

/-- THE TIED CARD OF 'laws.FnExactRoundNear'. -/
def fnExactRoundNearCard : Claim7 := { stood := { row := fnExactRoundNearRow, standIns := [], harness := (true, "66632eaa5dd802253d4984e54b2d127e83b935c273fbf74871262a6ede28beca"), looks := false }, kinds := [], alts := [], laidByText := true, laidKinds := [.data], laidTests := true, laidLooks := .later }
def FnExactRoundNearCardSaid : Prop := Claim7.holds Tryd.pinned (.plain (OpenSpec.ofChange fnExactRoundNearSpec)) fnExactRoundNearCard

/-- THE TIED CARD OF 'laws.FnDownTwo'. -/
def fnDownTwoCard : Claim7 := { stood := { row := fnDownTwoRow, standIns := [], harness := (true, "66632eaa5dd802253d4984e54b2d127e83b935c273fbf74871262a6ede28beca"), looks := false }, kinds := [], alts := [], laidByText := true, laidKinds := [.data], laidTests := true, laidLooks := .later }
def FnDownTwoCardSaid : Prop := Claim7.holds Tryd.pinned (.plain (OpenSpec.ofChange fnDownTwoSpec)) fnDownTwoCard

/-- THE TIED CARD OF 'laws.FnDownWhole'. -/
def fnDownWholeCard : Claim7 := { stood := { row := fnDownWholeRow, standIns := [], harness := (true, "66632eaa5dd802253d4984e54b2d127e83b935c273fbf74871262a6ede28beca"), looks := false }, kinds := [], alts := [], laidByText := true, laidKinds := [.data], laidTests := true, laidLooks := .later }
def FnDownWholeCardSaid : Prop := Claim7.holds Tryd.pinned (.plain (OpenSpec.ofChange fnDownWholeSpec)) fnDownWholeCard

/-- THE TIED CARD OF 'laws.FnSpanEmpty'. -/
def fnSpanEmptyCard : Claim7 := { stood := { row := fnSpanEmptyRow, standIns := [], harness := (true, "66632eaa5dd802253d4984e54b2d127e83b935c273fbf74871262a6ede28beca"), looks := false }, kinds := [], alts := [], laidByText := true, laidKinds := [.data], laidTests := true, laidLooks := .later }
def FnSpanEmptyCardSaid : Prop := Claim7.holds Tryd.pinned (.plain (OpenSpec.ofChange fnSpanEmptySpec)) fnSpanEmptyCard

/-- THE TIED CARD OF 'laws.FnExactRepeatValid'. -/
def fnExactRepeatValidCard : Claim7 := { stood := { row := fnExactRepeatValidRow, standIns := [], harness := (true, "66632eaa5dd802253d4984e54b2d127e83b935c273fbf74871262a6ede28beca"), looks := false }, kinds := [], alts := [], laidByText := true, laidKinds := [.data], laidTests := true, laidLooks := .later }
def FnExactRepeatValidCardSaid : Prop := Claim7.holds Tryd.pinned (.plain (OpenSpec.ofChange fnExactRepeatValidSpec)) fnExactRepeatValidCard

/-- THE TIED CARD OF 'laws.FnRepeatPart'. -/
def fnRepeatPartCard : Claim7 := { stood := { row := fnRepeatPartRow, standIns := [], harness := (true, "66632eaa5dd802253d4984e54b2d127e83b935c273fbf74871262a6ede28beca"), looks := false }, kinds := [], alts := [], laidByText := true, laidKinds := [.data], laidTests := true, laidLooks := .later }
def FnRepeatPartCardSaid : Prop := Claim7.holds Tryd.pinned (.plain (OpenSpec.ofChange fnRepeatPartSpec)) fnRepeatPartCard

/-- THE SECOND FORM's CARD OF 'laws.FnExactRoundDown'. -/
def fnExactRoundDownUptoCard : Claim7 := { stood := { row := fnExactRoundDownUptoRow, standIns := [], harness := (true, "66632eaa5dd802253d4984e54b2d127e83b935c273fbf74871262a6ede28beca"), looks := false }, kinds := [], alts := [], laidByText := true, laidKinds := [.data], laidTests := true, laidLooks := .later }
def FnExactRoundDownUptoCardSaid : Prop := Claim7.holds Tryd.pinned (.plain (OpenSpec.upto fnExactRoundDownSpec)) fnExactRoundDownUptoCard

/-- THE SECOND FORM's CARD OF 'laws.FnExactRoundUp'. -/
def fnExactRoundUpUptoCard : Claim7 := { stood := { row := fnExactRoundUpUptoRow, standIns := [], harness := (true, "66632eaa5dd802253d4984e54b2d127e83b935c273fbf74871262a6ede28beca"), looks := false }, kinds := [], alts := [], laidByText := true, laidKinds := [.data], laidTests := true, laidLooks := .later }
def FnExactRoundUpUptoCardSaid : Prop := Claim7.holds Tryd.pinned (.plain (OpenSpec.upto fnExactRoundUpSpec)) fnExactRoundUpUptoCard

/-- THE SECOND FORM's CARD OF 'laws.FnExactRoundNear'. -/
def fnExactRoundNearUptoCard : Claim7 := { stood := { row := fnExactRoundNearUptoRow, standIns := [], harness := (true, "66632eaa5dd802253d4984e54b2d127e83b935c273fbf74871262a6ede28beca"), looks := false }, kinds := [], alts := [], laidByText := true, laidKinds := [.data], laidTests := true, laidLooks := .later }
def FnExactRoundNearUptoCardSaid : Prop := Claim7.holds Tryd.pinned (.plain (OpenSpec.upto fnExactRoundNearSpec)) fnExactRoundNearUptoCard

/-- THE SECOND FORM's CARD OF 'laws.FnDownTwo'. -/
def fnDownTwoUptoCard : Claim7 := { stood := { row := fnDownTwoUptoRow, standIns := [], harness := (true, "66632eaa5dd802253d4984e54b2d127e83b935c273fbf74871262a6ede28beca"), looks := false }, kinds := [], alts := [], laidByText := true, laidKinds := [.data], laidTests := true, laidLooks := .later }
def FnDownTwoUptoCardSaid : Prop := Claim7.holds Tryd.pinned (.plain (OpenSpec.upto fnDownTwoSpec)) fnDownTwoUptoCard

/-- THE SECOND FORM's CARD OF 'laws.FnDownWhole'. -/
def fnDownWholeUptoCard : Claim7 := { stood := { row := fnDownWholeUptoRow, standIns := [], harness := (true, "66632eaa5dd802253d4984e54b2d127e83b935c273fbf74871262a6ede28beca"), looks := false }, kinds := [], alts := [], laidByText := true, laidKinds := [.data], laidTests := true, laidLooks := .later }
def FnDownWholeUptoCardSaid : Prop := Claim7.holds Tryd.pinned (.plain (OpenSpec.upto fnDownWholeSpec)) fnDownWholeUptoCard

/-- THE SECOND FORM's CARD OF 'laws.FnSpanEmpty'. -/
def fnSpanEmptyUptoCard : Claim7 := { stood := { row := fnSpanEmptyUptoRow, standIns := [], harness := (true, "66632eaa5dd802253d4984e54b2d127e83b935c273fbf74871262a6ede28beca"), looks := false }, kinds := [], alts := [], laidByText := true, laidKinds := [.data], laidTests := true, laidLooks := .later }
def FnSpanEmptyUptoCardSaid : Prop := Claim7.holds Tryd.pinned (.plain (OpenSpec.upto fnSpanEmptySpec)) fnSpanEmptyUptoCard

/-- THE SECOND FORM's CARD OF 'laws.FnExactRepeatValid'. -/
def fnExactRepeatValidUptoCard : Claim7 := { stood := { row := fnExactRepeatValidUptoRow, standIns := [], harness := (true, "66632eaa5dd802253d4984e54b2d127e83b935c273fbf74871262a6ede28beca"), looks := false }, kinds := [], alts := [], laidByText := true, laidKinds := [.data], laidTests := true, laidLooks := .later }
def FnExactRepeatValidUptoCardSaid : Prop := Claim7.holds Tryd.pinned (.plain (OpenSpec.upto fnExactRepeatValidSpec)) fnExactRepeatValidUptoCard

/-- THE SECOND FORM's CARD OF 'laws.FnRepeatPart'. -/
def fnRepeatPartUptoCard : Claim7 := { stood := { row := fnRepeatPartUptoRow, standIns := [], harness := (true, "66632eaa5dd802253d4984e54b2d127e83b935c273fbf74871262a6ede28beca"), looks := false }, kinds := [], alts := [], laidByText := true, laidKinds := [.data], laidTests := true, laidLooks := .later }
def FnRepeatPartUptoCardSaid : Prop := Claim7.holds Tryd.pinned (.plain (OpenSpec.upto fnRepeatPartSpec)) fnRepeatPartUptoCard
end Rows
end Go.Proofs.YtlhobebaobaoiaaDoor
