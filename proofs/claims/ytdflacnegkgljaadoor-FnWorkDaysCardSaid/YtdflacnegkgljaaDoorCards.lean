/-
  DERIVED. GIVEN WITH THE SEED: THE CARDS: each row of YtdflacnegkgljaaDoorRows.lean that lists a variable, with what it lists TIED to the program's text (the seventh form; the later family's looks); each row that meets fmt, with fmt's text TOLD by the authors' own Lean function (tested against real Go, not proved from fmt's source: count such statements apart). THE CARD IS WHAT COUNTS. Prove the row's statement (the work); the ties are given (YtdflacnegkgljaaDoorTie.lean); close each card by the builder's one call (the guide's Derived/Test/ToyasCard.lean, 'card_holds'). Laid BY PROGRAM, IN A SANDBOX (cutbox-door.mjs). By AI agents, Wed Nov 11 2026. No macro, syntax, notation, axiom, sorry.
-/
import Derived.Test.YtdflacnegkgljaaDoorRows
import GoSem.ClaimSeven
namespace Go.Proofs.YtdflacnegkgljaaDoor
namespace Rows

/-- THE TIED CARD OF 'laws.FnEaster'. -/
def fnEasterCard : Claim7 := { stood := { row := fnEasterRow, standIns := [], harness := (true, "eb03c2d8446c930e79ba0f4d2fc784b31b747174164e351133f4945fdbf19a9e"), looks := false }, kinds := [], alts := [], laidByText := true, laidKinds := [.data], laidTests := true, laidLooks := .later }
def FnEasterCardSaid : Prop := Claim7.holds Tryd.pinned (.plain (OpenSpec.ofChange fnEasterSpec)) fnEasterCard

/-- THE TIED CARD OF 'laws.FnExactNthWeekday'. -/
def fnExactNthWeekdayCard : Claim7 := { stood := { row := fnExactNthWeekdayRow, standIns := [], harness := (true, "eb03c2d8446c930e79ba0f4d2fc784b31b747174164e351133f4945fdbf19a9e"), looks := false }, kinds := [], alts := [], laidByText := true, laidKinds := [.data], laidTests := true, laidLooks := .later }
def FnExactNthWeekdayCardSaid : Prop := Claim7.holds Tryd.pinned (.plain (OpenSpec.ofChange fnExactNthWeekdaySpec)) fnExactNthWeekdayCard

/-- THE TIED CARD OF 'laws.FnNthDay'. -/
def fnNthDayCard : Claim7 := { stood := { row := fnNthDayRow, standIns := [], harness := (true, "eb03c2d8446c930e79ba0f4d2fc784b31b747174164e351133f4945fdbf19a9e"), looks := false }, kinds := [], alts := [], laidByText := true, laidKinds := [.data], laidTests := true, laidLooks := .later }
def FnNthDayCardSaid : Prop := Claim7.holds Tryd.pinned (.plain (OpenSpec.ofChange fnNthDaySpec)) fnNthDayCard

/-- THE TIED CARD OF 'laws.FnNthLast'. -/
def fnNthLastCard : Claim7 := { stood := { row := fnNthLastRow, standIns := [], harness := (true, "eb03c2d8446c930e79ba0f4d2fc784b31b747174164e351133f4945fdbf19a9e"), looks := false }, kinds := [], alts := [], laidByText := true, laidKinds := [.data], laidTests := true, laidLooks := .later }
def FnNthLastCardSaid : Prop := Claim7.holds Tryd.pinned (.plain (OpenSpec.ofChange fnNthLastSpec)) fnNthLastCard

/-- THE TIED CARD OF 'laws.FnNth'. -/
def fnNthCard : Claim7 := { stood := { row := fnNthRow, standIns := [], harness := (true, "eb03c2d8446c930e79ba0f4d2fc784b31b747174164e351133f4945fdbf19a9e"), looks := false }, kinds := [], alts := [], laidByText := true, laidKinds := [.data], laidTests := true, laidLooks := .later }
def FnNthCardSaid : Prop := Claim7.holds Tryd.pinned (.plain (OpenSpec.ofChange fnNthSpec)) fnNthCard

/-- THE TIED CARD OF 'laws.FnExactWorkDays'. -/
def fnExactWorkDaysCard : Claim7 := { stood := { row := fnExactWorkDaysRow, standIns := [], harness := (true, "eb03c2d8446c930e79ba0f4d2fc784b31b747174164e351133f4945fdbf19a9e"), looks := false }, kinds := [], alts := [], laidByText := true, laidKinds := [.data], laidTests := true, laidLooks := .later }
def FnExactWorkDaysCardSaid : Prop := Claim7.holds Tryd.pinned (.plain (OpenSpec.ofChange fnExactWorkDaysSpec)) fnExactWorkDaysCard

/-- THE TIED CARD OF 'laws.FnExactWorkPlus'. -/
def fnExactWorkPlusCard : Claim7 := { stood := { row := fnExactWorkPlusRow, standIns := [], harness := (true, "eb03c2d8446c930e79ba0f4d2fc784b31b747174164e351133f4945fdbf19a9e"), looks := false }, kinds := [], alts := [], laidByText := true, laidKinds := [.data], laidTests := true, laidLooks := .later }
def FnExactWorkPlusCardSaid : Prop := Claim7.holds Tryd.pinned (.plain (OpenSpec.ofChange fnExactWorkPlusSpec)) fnExactWorkPlusCard

/-- THE TIED CARD OF 'laws.FnWorkDaysFew'. -/
def fnWorkDaysFewCard : Claim7 := { stood := { row := fnWorkDaysFewRow, standIns := [], harness := (true, "eb03c2d8446c930e79ba0f4d2fc784b31b747174164e351133f4945fdbf19a9e"), looks := false }, kinds := [], alts := [], laidByText := true, laidKinds := [.data], laidTests := true, laidLooks := .later }
def FnWorkDaysFewCardSaid : Prop := Claim7.holds Tryd.pinned (.plain (OpenSpec.ofChange fnWorkDaysFewSpec)) fnWorkDaysFewCard

/-- THE TIED CARD OF 'laws.FnWorkPlusLast'. -/
def fnWorkPlusLastCard : Claim7 := { stood := { row := fnWorkPlusLastRow, standIns := [], harness := (true, "eb03c2d8446c930e79ba0f4d2fc784b31b747174164e351133f4945fdbf19a9e"), looks := false }, kinds := [], alts := [], laidByText := true, laidKinds := [.data], laidTests := true, laidLooks := .later }
def FnWorkPlusLastCardSaid : Prop := Claim7.holds Tryd.pinned (.plain (OpenSpec.ofChange fnWorkPlusLastSpec)) fnWorkPlusLastCard

/-- THE TIED CARD OF 'laws.FnWorkDays'. -/
def fnWorkDaysCard : Claim7 := { stood := { row := fnWorkDaysRow, standIns := [], harness := (true, "eb03c2d8446c930e79ba0f4d2fc784b31b747174164e351133f4945fdbf19a9e"), looks := false }, kinds := [], alts := [], laidByText := true, laidKinds := [.data], laidTests := true, laidLooks := .later }
def FnWorkDaysCardSaid : Prop := Claim7.holds Tryd.pinned (.plain (OpenSpec.ofChange fnWorkDaysSpec)) fnWorkDaysCard

/-- THE TIED CARD OF 'laws.FnWorkPlus'. -/
def fnWorkPlusCard : Claim7 := { stood := { row := fnWorkPlusRow, standIns := [], harness := (true, "eb03c2d8446c930e79ba0f4d2fc784b31b747174164e351133f4945fdbf19a9e"), looks := false }, kinds := [], alts := [], laidByText := true, laidKinds := [.data], laidTests := true, laidLooks := .later }
def FnWorkPlusCardSaid : Prop := Claim7.holds Tryd.pinned (.plain (OpenSpec.ofChange fnWorkPlusSpec)) fnWorkPlusCard

/-- THE SECOND FORM's CARD OF 'laws.FnEaster'. -/
def fnEasterUptoCard : Claim7 := { stood := { row := fnEasterUptoRow, standIns := [], harness := (true, "eb03c2d8446c930e79ba0f4d2fc784b31b747174164e351133f4945fdbf19a9e"), looks := false }, kinds := [], alts := [], laidByText := true, laidKinds := [.data], laidTests := true, laidLooks := .later }
def FnEasterUptoCardSaid : Prop := Claim7.holds Tryd.pinned (.plain (OpenSpec.upto fnEasterSpec)) fnEasterUptoCard

/-- THE SECOND FORM's CARD OF 'laws.FnExactNthWeekday'. -/
def fnExactNthWeekdayUptoCard : Claim7 := { stood := { row := fnExactNthWeekdayUptoRow, standIns := [], harness := (true, "eb03c2d8446c930e79ba0f4d2fc784b31b747174164e351133f4945fdbf19a9e"), looks := false }, kinds := [], alts := [], laidByText := true, laidKinds := [.data], laidTests := true, laidLooks := .later }
def FnExactNthWeekdayUptoCardSaid : Prop := Claim7.holds Tryd.pinned (.plain (OpenSpec.upto fnExactNthWeekdaySpec)) fnExactNthWeekdayUptoCard

/-- THE SECOND FORM's CARD OF 'laws.FnNthDay'. -/
def fnNthDayUptoCard : Claim7 := { stood := { row := fnNthDayUptoRow, standIns := [], harness := (true, "eb03c2d8446c930e79ba0f4d2fc784b31b747174164e351133f4945fdbf19a9e"), looks := false }, kinds := [], alts := [], laidByText := true, laidKinds := [.data], laidTests := true, laidLooks := .later }
def FnNthDayUptoCardSaid : Prop := Claim7.holds Tryd.pinned (.plain (OpenSpec.upto fnNthDaySpec)) fnNthDayUptoCard

/-- THE SECOND FORM's CARD OF 'laws.FnNthLast'. -/
def fnNthLastUptoCard : Claim7 := { stood := { row := fnNthLastUptoRow, standIns := [], harness := (true, "eb03c2d8446c930e79ba0f4d2fc784b31b747174164e351133f4945fdbf19a9e"), looks := false }, kinds := [], alts := [], laidByText := true, laidKinds := [.data], laidTests := true, laidLooks := .later }
def FnNthLastUptoCardSaid : Prop := Claim7.holds Tryd.pinned (.plain (OpenSpec.upto fnNthLastSpec)) fnNthLastUptoCard

/-- THE SECOND FORM's CARD OF 'laws.FnNth'. -/
def fnNthUptoCard : Claim7 := { stood := { row := fnNthUptoRow, standIns := [], harness := (true, "eb03c2d8446c930e79ba0f4d2fc784b31b747174164e351133f4945fdbf19a9e"), looks := false }, kinds := [], alts := [], laidByText := true, laidKinds := [.data], laidTests := true, laidLooks := .later }
def FnNthUptoCardSaid : Prop := Claim7.holds Tryd.pinned (.plain (OpenSpec.upto fnNthSpec)) fnNthUptoCard

/-- THE SECOND FORM's CARD OF 'laws.FnExactWorkDays'. -/
def fnExactWorkDaysUptoCard : Claim7 := { stood := { row := fnExactWorkDaysUptoRow, standIns := [], harness := (true, "eb03c2d8446c930e79ba0f4d2fc784b31b747174164e351133f4945fdbf19a9e"), looks := false }, kinds := [], alts := [], laidByText := true, laidKinds := [.data], laidTests := true, laidLooks := .later }
def FnExactWorkDaysUptoCardSaid : Prop := Claim7.holds Tryd.pinned (.plain (OpenSpec.upto fnExactWorkDaysSpec)) fnExactWorkDaysUptoCard

/-- THE SECOND FORM's CARD OF 'laws.FnExactWorkPlus'. -/
def fnExactWorkPlusUptoCard : Claim7 := { stood := { row := fnExactWorkPlusUptoRow, standIns := [], harness := (true, "eb03c2d8446c930e79ba0f4d2fc784b31b747174164e351133f4945fdbf19a9e"), looks := false }, kinds := [], alts := [], laidByText := true, laidKinds := [.data], laidTests := true, laidLooks := .later }
def FnExactWorkPlusUptoCardSaid : Prop := Claim7.holds Tryd.pinned (.plain (OpenSpec.upto fnExactWorkPlusSpec)) fnExactWorkPlusUptoCard

/-- THE SECOND FORM's CARD OF 'laws.FnWorkDaysFew'. -/
def fnWorkDaysFewUptoCard : Claim7 := { stood := { row := fnWorkDaysFewUptoRow, standIns := [], harness := (true, "eb03c2d8446c930e79ba0f4d2fc784b31b747174164e351133f4945fdbf19a9e"), looks := false }, kinds := [], alts := [], laidByText := true, laidKinds := [.data], laidTests := true, laidLooks := .later }
def FnWorkDaysFewUptoCardSaid : Prop := Claim7.holds Tryd.pinned (.plain (OpenSpec.upto fnWorkDaysFewSpec)) fnWorkDaysFewUptoCard

/-- THE SECOND FORM's CARD OF 'laws.FnWorkPlusLast'. -/
def fnWorkPlusLastUptoCard : Claim7 := { stood := { row := fnWorkPlusLastUptoRow, standIns := [], harness := (true, "eb03c2d8446c930e79ba0f4d2fc784b31b747174164e351133f4945fdbf19a9e"), looks := false }, kinds := [], alts := [], laidByText := true, laidKinds := [.data], laidTests := true, laidLooks := .later }
def FnWorkPlusLastUptoCardSaid : Prop := Claim7.holds Tryd.pinned (.plain (OpenSpec.upto fnWorkPlusLastSpec)) fnWorkPlusLastUptoCard

/-- THE SECOND FORM's CARD OF 'laws.FnWorkDays'. -/
def fnWorkDaysUptoCard : Claim7 := { stood := { row := fnWorkDaysUptoRow, standIns := [], harness := (true, "eb03c2d8446c930e79ba0f4d2fc784b31b747174164e351133f4945fdbf19a9e"), looks := false }, kinds := [], alts := [], laidByText := true, laidKinds := [.data], laidTests := true, laidLooks := .later }
def FnWorkDaysUptoCardSaid : Prop := Claim7.holds Tryd.pinned (.plain (OpenSpec.upto fnWorkDaysSpec)) fnWorkDaysUptoCard

/-- THE SECOND FORM's CARD OF 'laws.FnWorkPlus'. -/
def fnWorkPlusUptoCard : Claim7 := { stood := { row := fnWorkPlusUptoRow, standIns := [], harness := (true, "eb03c2d8446c930e79ba0f4d2fc784b31b747174164e351133f4945fdbf19a9e"), looks := false }, kinds := [], alts := [], laidByText := true, laidKinds := [.data], laidTests := true, laidLooks := .later }
def FnWorkPlusUptoCardSaid : Prop := Claim7.holds Tryd.pinned (.plain (OpenSpec.upto fnWorkPlusSpec)) fnWorkPlusUptoCard
end Rows
end Go.Proofs.YtdflacnegkgljaaDoor
