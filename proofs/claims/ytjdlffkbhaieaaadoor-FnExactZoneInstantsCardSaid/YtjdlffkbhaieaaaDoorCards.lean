/-
  DERIVED. GIVEN WITH THE SEED: THE CARDS: each row of YtjdlffkbhaieaaaDoorRows.lean that lists a variable, with what it lists TIED to the program's text (the seventh form; the later family's looks); each row that meets fmt, with fmt's text TOLD by the authors' own Lean function (tested against real Go, not proved from fmt's source: count such statements apart). THE CARD IS WHAT COUNTS. Prove the row's statement (the work); the ties are given (YtjdlffkbhaieaaaDoorTie.lean); close each card by the builder's one call (the guide's Derived/Test/ToyasCard.lean, 'card_holds'). Laid BY PROGRAM, IN A SANDBOX (cutbox-door.mjs). By AI agents, Wed Nov 11 2026. No macro, syntax, notation, axiom, sorry.
-/
import Derived.Test.YtjdlffkbhaieaaaDoorRows
import GoSem.ClaimSeven
namespace Go.Proofs.YtjdlffkbhaieaaaDoor
namespace Rows

/-- THE TIED CARD OF 'laws.FnExactZoneStamp'. -/
def fnExactZoneStampCard : Claim7 := { stood := { row := fnExactZoneStampRow, standIns := [], harness := (true, "2273c0c013aa3dfb59800ea92b56f75b238bae2ecc4e4da294e51bb97d7f2610"), looks := false }, kinds := [], alts := [], laidByText := true, laidKinds := [.data], laidTests := true, laidLooks := .later }
def FnExactZoneStampCardSaid : Prop := Claim7.holds Tryd.pinned (.plain (OpenSpec.ofChange fnExactZoneStampSpec)) fnExactZoneStampCard

/-- THE TIED CARD OF 'laws.FnZoneStamp'. -/
def fnZoneStampCard : Claim7 := { stood := { row := fnZoneStampRow, standIns := [], harness := (true, "2273c0c013aa3dfb59800ea92b56f75b238bae2ecc4e4da294e51bb97d7f2610"), looks := false }, kinds := [], alts := [], laidByText := true, laidKinds := [.data], laidTests := true, laidLooks := .later }
def FnZoneStampCardSaid : Prop := Claim7.holds Tryd.pinned (.plain (OpenSpec.ofChange fnZoneStampSpec)) fnZoneStampCard

/-- THE TIED CARD OF 'laws.FnZoneInstantsTwo'. -/
def fnZoneInstantsTwoCard : Claim7 := { stood := { row := fnZoneInstantsTwoRow, standIns := [], harness := (true, "2273c0c013aa3dfb59800ea92b56f75b238bae2ecc4e4da294e51bb97d7f2610"), looks := false }, kinds := [], alts := [], laidByText := true, laidKinds := [.data], laidTests := true, laidLooks := .later }
def FnZoneInstantsTwoCardSaid : Prop := Claim7.holds Tryd.pinned (.plain (OpenSpec.ofChange fnZoneInstantsTwoSpec)) fnZoneInstantsTwoCard

/-- THE TIED CARD OF 'laws.FnExactZonePick'. -/
def fnExactZonePickCard : Claim7 := { stood := { row := fnExactZonePickRow, standIns := [], harness := (true, "2273c0c013aa3dfb59800ea92b56f75b238bae2ecc4e4da294e51bb97d7f2610"), looks := false }, kinds := [], alts := [], laidByText := true, laidKinds := [.data], laidTests := true, laidLooks := .later }
def FnExactZonePickCardSaid : Prop := Claim7.holds Tryd.pinned (.plain (OpenSpec.ofChange fnExactZonePickSpec)) fnExactZonePickCard

/-- THE TIED CARD OF 'laws.FnZoneStampBack'. -/
def fnZoneStampBackCard : Claim7 := { stood := { row := fnZoneStampBackRow, standIns := [], harness := (true, "2273c0c013aa3dfb59800ea92b56f75b238bae2ecc4e4da294e51bb97d7f2610"), looks := false }, kinds := [], alts := [], laidByText := true, laidKinds := [.data], laidTests := true, laidLooks := .later }
def FnZoneStampBackCardSaid : Prop := Claim7.holds Tryd.pinned (.plain (OpenSpec.ofChange fnZoneStampBackSpec)) fnZoneStampBackCard

/-- THE TIED CARD OF 'laws.FnZoneInstantsNone'. -/
def fnZoneInstantsNoneCard : Claim7 := { stood := { row := fnZoneInstantsNoneRow, standIns := [], harness := (true, "2273c0c013aa3dfb59800ea92b56f75b238bae2ecc4e4da294e51bb97d7f2610"), looks := false }, kinds := [], alts := [], laidByText := true, laidKinds := [.data], laidTests := true, laidLooks := .later }
def FnZoneInstantsNoneCardSaid : Prop := Claim7.holds Tryd.pinned (.plain (OpenSpec.ofChange fnZoneInstantsNoneSpec)) fnZoneInstantsNoneCard

/-- THE TIED CARD OF 'laws.FnExactZoneInstants'. -/
def fnExactZoneInstantsCard : Claim7 := { stood := { row := fnExactZoneInstantsRow, standIns := [], harness := (true, "2273c0c013aa3dfb59800ea92b56f75b238bae2ecc4e4da294e51bb97d7f2610"), looks := false }, kinds := [], alts := [], laidByText := true, laidKinds := [.data], laidTests := true, laidLooks := .later }
def FnExactZoneInstantsCardSaid : Prop := Claim7.holds Tryd.pinned (.plain (OpenSpec.ofChange fnExactZoneInstantsSpec)) fnExactZoneInstantsCard

/-- THE TIED CARD OF 'laws.FnZoneInstants'. -/
def fnZoneInstantsCard : Claim7 := { stood := { row := fnZoneInstantsRow, standIns := [], harness := (true, "2273c0c013aa3dfb59800ea92b56f75b238bae2ecc4e4da294e51bb97d7f2610"), looks := false }, kinds := [], alts := [], laidByText := true, laidKinds := [.data], laidTests := true, laidLooks := .later }
def FnZoneInstantsCardSaid : Prop := Claim7.holds Tryd.pinned (.plain (OpenSpec.ofChange fnZoneInstantsSpec)) fnZoneInstantsCard

/-- THE TIED CARD OF 'laws.FnPickWhen'. -/
def fnPickWhenCard : Claim7 := { stood := { row := fnPickWhenRow, standIns := [], harness := (true, "2273c0c013aa3dfb59800ea92b56f75b238bae2ecc4e4da294e51bb97d7f2610"), looks := false }, kinds := [], alts := [], laidByText := true, laidKinds := [.data], laidTests := true, laidLooks := .later }
def FnPickWhenCardSaid : Prop := Claim7.holds Tryd.pinned (.plain (OpenSpec.ofChange fnPickWhenSpec)) fnPickWhenCard

/-- THE TIED CARD OF 'laws.FnPick'. -/
def fnPickCard : Claim7 := { stood := { row := fnPickRow, standIns := [], harness := (true, "2273c0c013aa3dfb59800ea92b56f75b238bae2ecc4e4da294e51bb97d7f2610"), looks := false }, kinds := [], alts := [], laidByText := true, laidKinds := [.data], laidTests := true, laidLooks := .later }
def FnPickCardSaid : Prop := Claim7.holds Tryd.pinned (.plain (OpenSpec.ofChange fnPickSpec)) fnPickCard

/-- THE TIED CARD OF 'laws.FnPickGap'. -/
def fnPickGapCard : Claim7 := { stood := { row := fnPickGapRow, standIns := [], harness := (true, "2273c0c013aa3dfb59800ea92b56f75b238bae2ecc4e4da294e51bb97d7f2610"), looks := false }, kinds := [], alts := [], laidByText := true, laidKinds := [.data], laidTests := true, laidLooks := .later }
def FnPickGapCardSaid : Prop := Claim7.holds Tryd.pinned (.plain (OpenSpec.ofChange fnPickGapSpec)) fnPickGapCard

/-- THE SECOND FORM's CARD OF 'laws.FnExactZoneStamp'. -/
def fnExactZoneStampUptoCard : Claim7 := { stood := { row := fnExactZoneStampUptoRow, standIns := [], harness := (true, "2273c0c013aa3dfb59800ea92b56f75b238bae2ecc4e4da294e51bb97d7f2610"), looks := false }, kinds := [], alts := [], laidByText := true, laidKinds := [.data], laidTests := true, laidLooks := .later }
def FnExactZoneStampUptoCardSaid : Prop := Claim7.holds Tryd.pinned (.plain (OpenSpec.upto fnExactZoneStampSpec)) fnExactZoneStampUptoCard

/-- THE SECOND FORM's CARD OF 'laws.FnZoneStamp'. -/
def fnZoneStampUptoCard : Claim7 := { stood := { row := fnZoneStampUptoRow, standIns := [], harness := (true, "2273c0c013aa3dfb59800ea92b56f75b238bae2ecc4e4da294e51bb97d7f2610"), looks := false }, kinds := [], alts := [], laidByText := true, laidKinds := [.data], laidTests := true, laidLooks := .later }
def FnZoneStampUptoCardSaid : Prop := Claim7.holds Tryd.pinned (.plain (OpenSpec.upto fnZoneStampSpec)) fnZoneStampUptoCard

/-- THE SECOND FORM's CARD OF 'laws.FnZoneInstantsTwo'. -/
def fnZoneInstantsTwoUptoCard : Claim7 := { stood := { row := fnZoneInstantsTwoUptoRow, standIns := [], harness := (true, "2273c0c013aa3dfb59800ea92b56f75b238bae2ecc4e4da294e51bb97d7f2610"), looks := false }, kinds := [], alts := [], laidByText := true, laidKinds := [.data], laidTests := true, laidLooks := .later }
def FnZoneInstantsTwoUptoCardSaid : Prop := Claim7.holds Tryd.pinned (.plain (OpenSpec.upto fnZoneInstantsTwoSpec)) fnZoneInstantsTwoUptoCard

/-- THE SECOND FORM's CARD OF 'laws.FnExactZonePick'. -/
def fnExactZonePickUptoCard : Claim7 := { stood := { row := fnExactZonePickUptoRow, standIns := [], harness := (true, "2273c0c013aa3dfb59800ea92b56f75b238bae2ecc4e4da294e51bb97d7f2610"), looks := false }, kinds := [], alts := [], laidByText := true, laidKinds := [.data], laidTests := true, laidLooks := .later }
def FnExactZonePickUptoCardSaid : Prop := Claim7.holds Tryd.pinned (.plain (OpenSpec.upto fnExactZonePickSpec)) fnExactZonePickUptoCard

/-- THE SECOND FORM's CARD OF 'laws.FnZoneStampBack'. -/
def fnZoneStampBackUptoCard : Claim7 := { stood := { row := fnZoneStampBackUptoRow, standIns := [], harness := (true, "2273c0c013aa3dfb59800ea92b56f75b238bae2ecc4e4da294e51bb97d7f2610"), looks := false }, kinds := [], alts := [], laidByText := true, laidKinds := [.data], laidTests := true, laidLooks := .later }
def FnZoneStampBackUptoCardSaid : Prop := Claim7.holds Tryd.pinned (.plain (OpenSpec.upto fnZoneStampBackSpec)) fnZoneStampBackUptoCard

/-- THE SECOND FORM's CARD OF 'laws.FnZoneInstantsNone'. -/
def fnZoneInstantsNoneUptoCard : Claim7 := { stood := { row := fnZoneInstantsNoneUptoRow, standIns := [], harness := (true, "2273c0c013aa3dfb59800ea92b56f75b238bae2ecc4e4da294e51bb97d7f2610"), looks := false }, kinds := [], alts := [], laidByText := true, laidKinds := [.data], laidTests := true, laidLooks := .later }
def FnZoneInstantsNoneUptoCardSaid : Prop := Claim7.holds Tryd.pinned (.plain (OpenSpec.upto fnZoneInstantsNoneSpec)) fnZoneInstantsNoneUptoCard

/-- THE SECOND FORM's CARD OF 'laws.FnExactZoneInstants'. -/
def fnExactZoneInstantsUptoCard : Claim7 := { stood := { row := fnExactZoneInstantsUptoRow, standIns := [], harness := (true, "2273c0c013aa3dfb59800ea92b56f75b238bae2ecc4e4da294e51bb97d7f2610"), looks := false }, kinds := [], alts := [], laidByText := true, laidKinds := [.data], laidTests := true, laidLooks := .later }
def FnExactZoneInstantsUptoCardSaid : Prop := Claim7.holds Tryd.pinned (.plain (OpenSpec.upto fnExactZoneInstantsSpec)) fnExactZoneInstantsUptoCard

/-- THE SECOND FORM's CARD OF 'laws.FnZoneInstants'. -/
def fnZoneInstantsUptoCard : Claim7 := { stood := { row := fnZoneInstantsUptoRow, standIns := [], harness := (true, "2273c0c013aa3dfb59800ea92b56f75b238bae2ecc4e4da294e51bb97d7f2610"), looks := false }, kinds := [], alts := [], laidByText := true, laidKinds := [.data], laidTests := true, laidLooks := .later }
def FnZoneInstantsUptoCardSaid : Prop := Claim7.holds Tryd.pinned (.plain (OpenSpec.upto fnZoneInstantsSpec)) fnZoneInstantsUptoCard

/-- THE SECOND FORM's CARD OF 'laws.FnPickWhen'. -/
def fnPickWhenUptoCard : Claim7 := { stood := { row := fnPickWhenUptoRow, standIns := [], harness := (true, "2273c0c013aa3dfb59800ea92b56f75b238bae2ecc4e4da294e51bb97d7f2610"), looks := false }, kinds := [], alts := [], laidByText := true, laidKinds := [.data], laidTests := true, laidLooks := .later }
def FnPickWhenUptoCardSaid : Prop := Claim7.holds Tryd.pinned (.plain (OpenSpec.upto fnPickWhenSpec)) fnPickWhenUptoCard

/-- THE SECOND FORM's CARD OF 'laws.FnPick'. -/
def fnPickUptoCard : Claim7 := { stood := { row := fnPickUptoRow, standIns := [], harness := (true, "2273c0c013aa3dfb59800ea92b56f75b238bae2ecc4e4da294e51bb97d7f2610"), looks := false }, kinds := [], alts := [], laidByText := true, laidKinds := [.data], laidTests := true, laidLooks := .later }
def FnPickUptoCardSaid : Prop := Claim7.holds Tryd.pinned (.plain (OpenSpec.upto fnPickSpec)) fnPickUptoCard

/-- THE SECOND FORM's CARD OF 'laws.FnPickGap'. -/
def fnPickGapUptoCard : Claim7 := { stood := { row := fnPickGapUptoRow, standIns := [], harness := (true, "2273c0c013aa3dfb59800ea92b56f75b238bae2ecc4e4da294e51bb97d7f2610"), looks := false }, kinds := [], alts := [], laidByText := true, laidKinds := [.data], laidTests := true, laidLooks := .later }
def FnPickGapUptoCardSaid : Prop := Claim7.holds Tryd.pinned (.plain (OpenSpec.upto fnPickGapSpec)) fnPickGapUptoCard
end Rows
end Go.Proofs.YtjdlffkbhaieaaaDoor
