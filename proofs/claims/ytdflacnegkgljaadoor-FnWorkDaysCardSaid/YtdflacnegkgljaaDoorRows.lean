/-
  NARROWER THAN 'FOR EVERY INPUT', by the rows' own cells (each row's printed sentence says how): FnEaster: laid · FnExactNthWeekday: laid · FnNthDay: laid · FnNthLast: laid · FnNth: laid · FnExactWorkDays: laid · FnExactWorkPlus: laid · FnWorkDaysFew: laid · FnWorkPlusLast: laid · FnWorkDays: laid · FnWorkPlus: laid.
  DERIVED. THE GIVEN ROWS OF THIS SEAT. 11 by the template 'for every input the law returns true; each argument reads behind the call as it read before'; 0 by the template 'total and deterministic' (their statements: YtdflacnegkgljaaDoorTotals.lean).
  GIVEN WITH THE SEED: the statements are not yours to turn. If you find one false, say at which input.
  Laid BY PROGRAM, IN A SANDBOX (cutbox-rows.mjs): the forced cells as the released guide's own fill.sh prints them over the translation ab514e1f898d1e9b… (all of the seat's roots in one cut). By AI agents, Wed Nov 11 2026. No macro, syntax, notation, axiom, sorry.
-/
import Derived.Test.YtdflacnegkgljaaDoorChecked
import GoSem.Claim
import GoSem.ClaimJoined
import GoSem.ClaimMapViews
import Derived.JoinedTies
import Derived.KernelRfl
namespace Go.Proofs.YtdflacnegkgljaaDoor
/- THE CELL 'sum', in the pinned program and in every row, IS THE sha256 OF THE DUMP (.gsa) THAT YtdflacnegkgljaaDoorProg.lean LOADS. Nothing in Lean hashes anything: it is a label: what it is worth is what the hold of that sum in a sandbox is worth. -/
noncomputable def Tryd.pinned : Pinned := { name := "ytdflacnegkgljaadoor", sum := "ab514e1f898d1e9b9cea089a547b8481327623d05dcfe82646f5103890b34c65", checked := Tryd.checked }
namespace Rows
def none {H : Type} : Left H := { results := [], args := [] }

/- WHAT THE LISTED PACKAGE-LEVEL VARIABLES READ AS WHEN THE CALL BEGINS. Each datum BY PROGRAM (the guide's laid-datum.mjs) off the statement by which the dump's own 'gosem.cut.vars' lays the variable. In a bare row this is a premise. The card (YtdflacnegkgljaaDoorCards.lean) ties it to the program's text. -/
def laid_loop_example_datenotation_impl_monthDays {H : Type} : DataW H := .agg [.lit (.int .i64 31), .lit (.int .i64 28), .lit (.int .i64 31), .lit (.int .i64 30), .lit (.int .i64 31), .lit (.int .i64 30), .lit (.int .i64 31), .lit (.int .i64 31), .lit (.int .i64 30), .lit (.int .i64 31), .lit (.int .i64 30), .lit (.int .i64 31)]

/-- 'laws.FnEaster': WHATEVER THE INPUT: true; the input reads as it did. -/
def fnEasterSpec : ChangeSpec := { name := "fnEaster", vars := ["loop.example/datenotation/impl.monthDays"], fn := fun _ => fun
  | [d, g1] => { results := [.lit (.bool true)], args := [d], vars := [g1] }
  | _ => none }
def fnEasterRow : OpenClaim := { program := "ytdflacnegkgljaadoor", sum := "ab514e1f898d1e9b9cea089a547b8481327623d05dcfe82646f5103890b34c65", func := "loop.example/datenotation/laws.FnEaster", spec := "fnEaster", named := ["loop.example/datenotation/impl.monthDays"], apart := false, laid := [("loop.example/datenotation/impl.monthDays", laid_loop_example_datenotation_impl_monthDays)] }
def FnEasterSaid : Prop := fnEasterRow.holds Tryd.pinned (OpenSpec.ofChange fnEasterSpec)

/-- ITS FALSE NEIGHBOUR: 'it returns false'. Refute it at one input. -/
def fnEasterWrong : ChangeSpec := { name := "fnEaster", vars := ["loop.example/datenotation/impl.monthDays"], fn := fun _ => fun
  | [d, g1] => { results := [.lit (.bool false)], args := [d], vars := [g1] }
  | _ => none }
def FnEasterWrongFalsely : Prop := fnEasterRow.holds Tryd.pinned (OpenSpec.ofChange fnEasterWrong)

/-- 'laws.FnExactNthWeekday': WHATEVER THE INPUT: true; the input reads as it did. -/
def fnExactNthWeekdaySpec : ChangeSpec := { name := "fnExactNthWeekday", vars := ["loop.example/datenotation/impl.monthDays"], fn := fun _ => fun
  | [d1, d2, d3, d4, g1] => { results := [.lit (.bool true)], args := [d1, d2, d3, d4], vars := [g1] }
  | _ => none }
def fnExactNthWeekdayRow : OpenClaim := { program := "ytdflacnegkgljaadoor", sum := "ab514e1f898d1e9b9cea089a547b8481327623d05dcfe82646f5103890b34c65", func := "loop.example/datenotation/laws.FnExactNthWeekday", spec := "fnExactNthWeekday", named := ["loop.example/datenotation/impl.monthDays"], apart := false, laid := [("loop.example/datenotation/impl.monthDays", laid_loop_example_datenotation_impl_monthDays)] }
def FnExactNthWeekdaySaid : Prop := fnExactNthWeekdayRow.holds Tryd.pinned (OpenSpec.ofChange fnExactNthWeekdaySpec)

/-- ITS FALSE NEIGHBOUR: 'it returns false'. Refute it at one input. -/
def fnExactNthWeekdayWrong : ChangeSpec := { name := "fnExactNthWeekday", vars := ["loop.example/datenotation/impl.monthDays"], fn := fun _ => fun
  | [d1, d2, d3, d4, g1] => { results := [.lit (.bool false)], args := [d1, d2, d3, d4], vars := [g1] }
  | _ => none }
def FnExactNthWeekdayWrongFalsely : Prop := fnExactNthWeekdayRow.holds Tryd.pinned (OpenSpec.ofChange fnExactNthWeekdayWrong)

/-- 'laws.FnNthDay': WHATEVER THE INPUT: true; the input reads as it did. -/
def fnNthDaySpec : ChangeSpec := { name := "fnNthDay", vars := ["loop.example/datenotation/impl.monthDays"], fn := fun _ => fun
  | [d, g1] => { results := [.lit (.bool true)], args := [d], vars := [g1] }
  | _ => none }
def fnNthDayRow : OpenClaim := { program := "ytdflacnegkgljaadoor", sum := "ab514e1f898d1e9b9cea089a547b8481327623d05dcfe82646f5103890b34c65", func := "loop.example/datenotation/laws.FnNthDay", spec := "fnNthDay", named := ["loop.example/datenotation/impl.monthDays"], apart := false, laid := [("loop.example/datenotation/impl.monthDays", laid_loop_example_datenotation_impl_monthDays)] }
def FnNthDaySaid : Prop := fnNthDayRow.holds Tryd.pinned (OpenSpec.ofChange fnNthDaySpec)

/-- ITS FALSE NEIGHBOUR: 'it returns false'. Refute it at one input. -/
def fnNthDayWrong : ChangeSpec := { name := "fnNthDay", vars := ["loop.example/datenotation/impl.monthDays"], fn := fun _ => fun
  | [d, g1] => { results := [.lit (.bool false)], args := [d], vars := [g1] }
  | _ => none }
def FnNthDayWrongFalsely : Prop := fnNthDayRow.holds Tryd.pinned (OpenSpec.ofChange fnNthDayWrong)

/-- 'laws.FnNthLast': WHATEVER THE INPUT: true; the input reads as it did. -/
def fnNthLastSpec : ChangeSpec := { name := "fnNthLast", vars := ["loop.example/datenotation/impl.monthDays"], fn := fun _ => fun
  | [d, g1] => { results := [.lit (.bool true)], args := [d], vars := [g1] }
  | _ => none }
def fnNthLastRow : OpenClaim := { program := "ytdflacnegkgljaadoor", sum := "ab514e1f898d1e9b9cea089a547b8481327623d05dcfe82646f5103890b34c65", func := "loop.example/datenotation/laws.FnNthLast", spec := "fnNthLast", named := ["loop.example/datenotation/impl.monthDays"], apart := false, laid := [("loop.example/datenotation/impl.monthDays", laid_loop_example_datenotation_impl_monthDays)] }
def FnNthLastSaid : Prop := fnNthLastRow.holds Tryd.pinned (OpenSpec.ofChange fnNthLastSpec)

/-- ITS FALSE NEIGHBOUR: 'it returns false'. Refute it at one input. -/
def fnNthLastWrong : ChangeSpec := { name := "fnNthLast", vars := ["loop.example/datenotation/impl.monthDays"], fn := fun _ => fun
  | [d, g1] => { results := [.lit (.bool false)], args := [d], vars := [g1] }
  | _ => none }
def FnNthLastWrongFalsely : Prop := fnNthLastRow.holds Tryd.pinned (OpenSpec.ofChange fnNthLastWrong)

/-- 'laws.FnNth': WHATEVER THE INPUT: true; the input reads as it did. -/
def fnNthSpec : ChangeSpec := { name := "fnNth", vars := ["loop.example/datenotation/impl.monthDays"], fn := fun _ => fun
  | [d, g1] => { results := [.lit (.bool true)], args := [d], vars := [g1] }
  | _ => none }
def fnNthRow : OpenClaim := { program := "ytdflacnegkgljaadoor", sum := "ab514e1f898d1e9b9cea089a547b8481327623d05dcfe82646f5103890b34c65", func := "loop.example/datenotation/laws.FnNth", spec := "fnNth", named := ["loop.example/datenotation/impl.monthDays"], apart := false, laid := [("loop.example/datenotation/impl.monthDays", laid_loop_example_datenotation_impl_monthDays)] }
def FnNthSaid : Prop := fnNthRow.holds Tryd.pinned (OpenSpec.ofChange fnNthSpec)

/-- ITS FALSE NEIGHBOUR: 'it returns false'. Refute it at one input. -/
def fnNthWrong : ChangeSpec := { name := "fnNth", vars := ["loop.example/datenotation/impl.monthDays"], fn := fun _ => fun
  | [d, g1] => { results := [.lit (.bool false)], args := [d], vars := [g1] }
  | _ => none }
def FnNthWrongFalsely : Prop := fnNthRow.holds Tryd.pinned (OpenSpec.ofChange fnNthWrong)

/-- 'laws.FnExactWorkDays': WHATEVER THE INPUT: true; the input reads as it did. -/
def fnExactWorkDaysSpec : ChangeSpec := { name := "fnExactWorkDays", vars := ["loop.example/datenotation/impl.monthDays"], fn := fun _ => fun
  | [d1, d2, d3, g1] => { results := [.lit (.bool true)], args := [d1, d2, d3], vars := [g1] }
  | _ => none }
def fnExactWorkDaysRow : OpenClaim := { program := "ytdflacnegkgljaadoor", sum := "ab514e1f898d1e9b9cea089a547b8481327623d05dcfe82646f5103890b34c65", func := "loop.example/datenotation/laws.FnExactWorkDays", spec := "fnExactWorkDays", unfollowed := true, recurses := true, named := ["loop.example/datenotation/impl.monthDays"], apart := false, laid := [("loop.example/datenotation/impl.monthDays", laid_loop_example_datenotation_impl_monthDays)] }
def FnExactWorkDaysSaid : Prop := fnExactWorkDaysRow.holds Tryd.pinned (OpenSpec.ofChange fnExactWorkDaysSpec)

/-- ITS FALSE NEIGHBOUR: 'it returns false'. Refute it at one input. -/
def fnExactWorkDaysWrong : ChangeSpec := { name := "fnExactWorkDays", vars := ["loop.example/datenotation/impl.monthDays"], fn := fun _ => fun
  | [d1, d2, d3, g1] => { results := [.lit (.bool false)], args := [d1, d2, d3], vars := [g1] }
  | _ => none }
def FnExactWorkDaysWrongFalsely : Prop := fnExactWorkDaysRow.holds Tryd.pinned (OpenSpec.ofChange fnExactWorkDaysWrong)

/-- 'laws.FnExactWorkPlus': WHATEVER THE INPUT: true; the input reads as it did. -/
def fnExactWorkPlusSpec : ChangeSpec := { name := "fnExactWorkPlus", vars := ["loop.example/datenotation/impl.monthDays"], fn := fun _ => fun
  | [d1, d2, d3, g1] => { results := [.lit (.bool true)], args := [d1, d2, d3], vars := [g1] }
  | _ => none }
def fnExactWorkPlusRow : OpenClaim := { program := "ytdflacnegkgljaadoor", sum := "ab514e1f898d1e9b9cea089a547b8481327623d05dcfe82646f5103890b34c65", func := "loop.example/datenotation/laws.FnExactWorkPlus", spec := "fnExactWorkPlus", unfollowed := true, recurses := true, named := ["loop.example/datenotation/impl.monthDays"], apart := false, laid := [("loop.example/datenotation/impl.monthDays", laid_loop_example_datenotation_impl_monthDays)] }
def FnExactWorkPlusSaid : Prop := fnExactWorkPlusRow.holds Tryd.pinned (OpenSpec.ofChange fnExactWorkPlusSpec)

/-- ITS FALSE NEIGHBOUR: 'it returns false'. Refute it at one input. -/
def fnExactWorkPlusWrong : ChangeSpec := { name := "fnExactWorkPlus", vars := ["loop.example/datenotation/impl.monthDays"], fn := fun _ => fun
  | [d1, d2, d3, g1] => { results := [.lit (.bool false)], args := [d1, d2, d3], vars := [g1] }
  | _ => none }
def FnExactWorkPlusWrongFalsely : Prop := fnExactWorkPlusRow.holds Tryd.pinned (OpenSpec.ofChange fnExactWorkPlusWrong)

/-- 'laws.FnWorkDaysFew': WHATEVER THE INPUT: true; the input reads as it did. -/
def fnWorkDaysFewSpec : ChangeSpec := { name := "fnWorkDaysFew", vars := ["loop.example/datenotation/impl.monthDays"], fn := fun _ => fun
  | [d, g1] => { results := [.lit (.bool true)], args := [d], vars := [g1] }
  | _ => none }
def fnWorkDaysFewRow : OpenClaim := { program := "ytdflacnegkgljaadoor", sum := "ab514e1f898d1e9b9cea089a547b8481327623d05dcfe82646f5103890b34c65", func := "loop.example/datenotation/laws.FnWorkDaysFew", spec := "fnWorkDaysFew", unfollowed := true, recurses := true, named := ["loop.example/datenotation/impl.monthDays"], apart := false, laid := [("loop.example/datenotation/impl.monthDays", laid_loop_example_datenotation_impl_monthDays)] }
def FnWorkDaysFewSaid : Prop := fnWorkDaysFewRow.holds Tryd.pinned (OpenSpec.ofChange fnWorkDaysFewSpec)

/-- ITS FALSE NEIGHBOUR: 'it returns false'. Refute it at one input. -/
def fnWorkDaysFewWrong : ChangeSpec := { name := "fnWorkDaysFew", vars := ["loop.example/datenotation/impl.monthDays"], fn := fun _ => fun
  | [d, g1] => { results := [.lit (.bool false)], args := [d], vars := [g1] }
  | _ => none }
def FnWorkDaysFewWrongFalsely : Prop := fnWorkDaysFewRow.holds Tryd.pinned (OpenSpec.ofChange fnWorkDaysFewWrong)

/-- 'laws.FnWorkPlusLast': WHATEVER THE INPUT: true; the input reads as it did. -/
def fnWorkPlusLastSpec : ChangeSpec := { name := "fnWorkPlusLast", vars := ["loop.example/datenotation/impl.monthDays"], fn := fun _ => fun
  | [d, g1] => { results := [.lit (.bool true)], args := [d], vars := [g1] }
  | _ => none }
def fnWorkPlusLastRow : OpenClaim := { program := "ytdflacnegkgljaadoor", sum := "ab514e1f898d1e9b9cea089a547b8481327623d05dcfe82646f5103890b34c65", func := "loop.example/datenotation/laws.FnWorkPlusLast", spec := "fnWorkPlusLast", unfollowed := true, recurses := true, named := ["loop.example/datenotation/impl.monthDays"], apart := false, laid := [("loop.example/datenotation/impl.monthDays", laid_loop_example_datenotation_impl_monthDays)] }
def FnWorkPlusLastSaid : Prop := fnWorkPlusLastRow.holds Tryd.pinned (OpenSpec.ofChange fnWorkPlusLastSpec)

/-- ITS FALSE NEIGHBOUR: 'it returns false'. Refute it at one input. -/
def fnWorkPlusLastWrong : ChangeSpec := { name := "fnWorkPlusLast", vars := ["loop.example/datenotation/impl.monthDays"], fn := fun _ => fun
  | [d, g1] => { results := [.lit (.bool false)], args := [d], vars := [g1] }
  | _ => none }
def FnWorkPlusLastWrongFalsely : Prop := fnWorkPlusLastRow.holds Tryd.pinned (OpenSpec.ofChange fnWorkPlusLastWrong)

/-- 'laws.FnWorkDays': WHATEVER THE INPUT: true; the input reads as it did. -/
def fnWorkDaysSpec : ChangeSpec := { name := "fnWorkDays", vars := ["loop.example/datenotation/impl.monthDays"], fn := fun _ => fun
  | [d1, d2, g1] => { results := [.lit (.bool true)], args := [d1, d2], vars := [g1] }
  | _ => none }
def fnWorkDaysRow : OpenClaim := { program := "ytdflacnegkgljaadoor", sum := "ab514e1f898d1e9b9cea089a547b8481327623d05dcfe82646f5103890b34c65", func := "loop.example/datenotation/laws.FnWorkDays", spec := "fnWorkDays", unfollowed := true, recurses := true, named := ["loop.example/datenotation/impl.monthDays"], apart := false, laid := [("loop.example/datenotation/impl.monthDays", laid_loop_example_datenotation_impl_monthDays)] }
def FnWorkDaysSaid : Prop := fnWorkDaysRow.holds Tryd.pinned (OpenSpec.ofChange fnWorkDaysSpec)

/-- ITS FALSE NEIGHBOUR: 'it returns false'. Refute it at one input. -/
def fnWorkDaysWrong : ChangeSpec := { name := "fnWorkDays", vars := ["loop.example/datenotation/impl.monthDays"], fn := fun _ => fun
  | [d1, d2, g1] => { results := [.lit (.bool false)], args := [d1, d2], vars := [g1] }
  | _ => none }
def FnWorkDaysWrongFalsely : Prop := fnWorkDaysRow.holds Tryd.pinned (OpenSpec.ofChange fnWorkDaysWrong)

/-- 'laws.FnWorkPlus': WHATEVER THE INPUT: true; the input reads as it did. -/
def fnWorkPlusSpec : ChangeSpec := { name := "fnWorkPlus", vars := ["loop.example/datenotation/impl.monthDays"], fn := fun _ => fun
  | [d, g1] => { results := [.lit (.bool true)], args := [d], vars := [g1] }
  | _ => none }
def fnWorkPlusRow : OpenClaim := { program := "ytdflacnegkgljaadoor", sum := "ab514e1f898d1e9b9cea089a547b8481327623d05dcfe82646f5103890b34c65", func := "loop.example/datenotation/laws.FnWorkPlus", spec := "fnWorkPlus", unfollowed := true, recurses := true, named := ["loop.example/datenotation/impl.monthDays"], apart := false, laid := [("loop.example/datenotation/impl.monthDays", laid_loop_example_datenotation_impl_monthDays)] }
def FnWorkPlusSaid : Prop := fnWorkPlusRow.holds Tryd.pinned (OpenSpec.ofChange fnWorkPlusSpec)

/-- ITS FALSE NEIGHBOUR: 'it returns false'. Refute it at one input. -/
def fnWorkPlusWrong : ChangeSpec := { name := "fnWorkPlus", vars := ["loop.example/datenotation/impl.monthDays"], fn := fun _ => fun
  | [d, g1] => { results := [.lit (.bool false)], args := [d], vars := [g1] }
  | _ => none }
def FnWorkPlusWrongFalsely : Prop := fnWorkPlusRow.holds Tryd.pinned (OpenSpec.ofChange fnWorkPlusWrong)

/- THE SECOND FORM. 'bulk': how many values and letters a reading holds, each counted each time it is reached (what is shared counts as often as it is met; a slice's spare places count too). A statement '..UptoSaid' is the law's where the arguments, and the package variables that the reading takes, are together of bulk at most 1048576: NARROWER than '..Said'. Prove '..Said' where nothing that the law and all that it calls make is longer than what came in: it says more and counts as full. Else prove '..UptoSaid'. A law counts once. -/
mutual
def uptoBulk {H : Type} : DataW H → Nat
  | .lit (.string bytes) => bytes.length + 1
  | .lit _ => 1
  | .nil => 1
  | .ptr d => uptoBulk d + 1
  | .slice elems spare => uptoBulkAll elems + uptoBulkAll spare + 1
  | .agg parts => uptoBulkAll parts + 1
  | .iface _ d => uptoBulk d + 1
  | .map entries => uptoBulkEntries entries + 1
  | .held _ => 1
def uptoBulkAll {H : Type} : List (DataW H) → Nat
  | [] => 0
  | d :: r => uptoBulk d + uptoBulkAll r
def uptoBulkEntries {H : Type} : List (Lit × DataW H) → Nat
  | [] => 0
  | x :: r => uptoBulkEntry x + uptoBulkEntries r
def uptoBulkEntry {H : Type} : Lit × DataW H → Nat
  | (.string bytes, d) => bytes.length + uptoBulk d + 1
  | (_, d) => uptoBulk d + 1
 end
def uptoSmall : (H : Type) → List (DataW H) → Bool := fun _ ds => decide (uptoBulkAll ds ≤ 1048576)
def OpenSpec.upto (s : _root_.Go.ChangeSpec) : _root_.Go.OpenSpec := { _root_.Go.OpenSpec.ofChange s with cond := some uptoSmall }

/-- 'laws.FnEaster', WHERE WHAT IT READS IS OF BULK AT MOST 1048576: true; the input reads as it did. -/
def fnEasterUptoRow : OpenClaim := { program := "ytdflacnegkgljaadoor", sum := "ab514e1f898d1e9b9cea089a547b8481327623d05dcfe82646f5103890b34c65", func := "loop.example/datenotation/laws.FnEaster", spec := "fnEaster", named := ["loop.example/datenotation/impl.monthDays"], apart := false, laid := [("loop.example/datenotation/impl.monthDays", laid_loop_example_datenotation_impl_monthDays)], narrowed := true }
def FnEasterUptoSaid : Prop := fnEasterUptoRow.holds Tryd.pinned (OpenSpec.upto fnEasterSpec)

/-- 'laws.FnExactNthWeekday', WHERE WHAT IT READS IS OF BULK AT MOST 1048576: true; the input reads as it did. -/
def fnExactNthWeekdayUptoRow : OpenClaim := { program := "ytdflacnegkgljaadoor", sum := "ab514e1f898d1e9b9cea089a547b8481327623d05dcfe82646f5103890b34c65", func := "loop.example/datenotation/laws.FnExactNthWeekday", spec := "fnExactNthWeekday", named := ["loop.example/datenotation/impl.monthDays"], apart := false, laid := [("loop.example/datenotation/impl.monthDays", laid_loop_example_datenotation_impl_monthDays)], narrowed := true }
def FnExactNthWeekdayUptoSaid : Prop := fnExactNthWeekdayUptoRow.holds Tryd.pinned (OpenSpec.upto fnExactNthWeekdaySpec)

/-- 'laws.FnNthDay', WHERE WHAT IT READS IS OF BULK AT MOST 1048576: true; the input reads as it did. -/
def fnNthDayUptoRow : OpenClaim := { program := "ytdflacnegkgljaadoor", sum := "ab514e1f898d1e9b9cea089a547b8481327623d05dcfe82646f5103890b34c65", func := "loop.example/datenotation/laws.FnNthDay", spec := "fnNthDay", named := ["loop.example/datenotation/impl.monthDays"], apart := false, laid := [("loop.example/datenotation/impl.monthDays", laid_loop_example_datenotation_impl_monthDays)], narrowed := true }
def FnNthDayUptoSaid : Prop := fnNthDayUptoRow.holds Tryd.pinned (OpenSpec.upto fnNthDaySpec)

/-- 'laws.FnNthLast', WHERE WHAT IT READS IS OF BULK AT MOST 1048576: true; the input reads as it did. -/
def fnNthLastUptoRow : OpenClaim := { program := "ytdflacnegkgljaadoor", sum := "ab514e1f898d1e9b9cea089a547b8481327623d05dcfe82646f5103890b34c65", func := "loop.example/datenotation/laws.FnNthLast", spec := "fnNthLast", named := ["loop.example/datenotation/impl.monthDays"], apart := false, laid := [("loop.example/datenotation/impl.monthDays", laid_loop_example_datenotation_impl_monthDays)], narrowed := true }
def FnNthLastUptoSaid : Prop := fnNthLastUptoRow.holds Tryd.pinned (OpenSpec.upto fnNthLastSpec)

/-- 'laws.FnNth', WHERE WHAT IT READS IS OF BULK AT MOST 1048576: true; the input reads as it did. -/
def fnNthUptoRow : OpenClaim := { program := "ytdflacnegkgljaadoor", sum := "ab514e1f898d1e9b9cea089a547b8481327623d05dcfe82646f5103890b34c65", func := "loop.example/datenotation/laws.FnNth", spec := "fnNth", named := ["loop.example/datenotation/impl.monthDays"], apart := false, laid := [("loop.example/datenotation/impl.monthDays", laid_loop_example_datenotation_impl_monthDays)], narrowed := true }
def FnNthUptoSaid : Prop := fnNthUptoRow.holds Tryd.pinned (OpenSpec.upto fnNthSpec)

/-- 'laws.FnExactWorkDays', WHERE WHAT IT READS IS OF BULK AT MOST 1048576: true; the input reads as it did. -/
def fnExactWorkDaysUptoRow : OpenClaim := { program := "ytdflacnegkgljaadoor", sum := "ab514e1f898d1e9b9cea089a547b8481327623d05dcfe82646f5103890b34c65", func := "loop.example/datenotation/laws.FnExactWorkDays", spec := "fnExactWorkDays", unfollowed := true, recurses := true, named := ["loop.example/datenotation/impl.monthDays"], apart := false, laid := [("loop.example/datenotation/impl.monthDays", laid_loop_example_datenotation_impl_monthDays)], narrowed := true }
def FnExactWorkDaysUptoSaid : Prop := fnExactWorkDaysUptoRow.holds Tryd.pinned (OpenSpec.upto fnExactWorkDaysSpec)

/-- 'laws.FnExactWorkPlus', WHERE WHAT IT READS IS OF BULK AT MOST 1048576: true; the input reads as it did. -/
def fnExactWorkPlusUptoRow : OpenClaim := { program := "ytdflacnegkgljaadoor", sum := "ab514e1f898d1e9b9cea089a547b8481327623d05dcfe82646f5103890b34c65", func := "loop.example/datenotation/laws.FnExactWorkPlus", spec := "fnExactWorkPlus", unfollowed := true, recurses := true, named := ["loop.example/datenotation/impl.monthDays"], apart := false, laid := [("loop.example/datenotation/impl.monthDays", laid_loop_example_datenotation_impl_monthDays)], narrowed := true }
def FnExactWorkPlusUptoSaid : Prop := fnExactWorkPlusUptoRow.holds Tryd.pinned (OpenSpec.upto fnExactWorkPlusSpec)

/-- 'laws.FnWorkDaysFew', WHERE WHAT IT READS IS OF BULK AT MOST 1048576: true; the input reads as it did. -/
def fnWorkDaysFewUptoRow : OpenClaim := { program := "ytdflacnegkgljaadoor", sum := "ab514e1f898d1e9b9cea089a547b8481327623d05dcfe82646f5103890b34c65", func := "loop.example/datenotation/laws.FnWorkDaysFew", spec := "fnWorkDaysFew", unfollowed := true, recurses := true, named := ["loop.example/datenotation/impl.monthDays"], apart := false, laid := [("loop.example/datenotation/impl.monthDays", laid_loop_example_datenotation_impl_monthDays)], narrowed := true }
def FnWorkDaysFewUptoSaid : Prop := fnWorkDaysFewUptoRow.holds Tryd.pinned (OpenSpec.upto fnWorkDaysFewSpec)

/-- 'laws.FnWorkPlusLast', WHERE WHAT IT READS IS OF BULK AT MOST 1048576: true; the input reads as it did. -/
def fnWorkPlusLastUptoRow : OpenClaim := { program := "ytdflacnegkgljaadoor", sum := "ab514e1f898d1e9b9cea089a547b8481327623d05dcfe82646f5103890b34c65", func := "loop.example/datenotation/laws.FnWorkPlusLast", spec := "fnWorkPlusLast", unfollowed := true, recurses := true, named := ["loop.example/datenotation/impl.monthDays"], apart := false, laid := [("loop.example/datenotation/impl.monthDays", laid_loop_example_datenotation_impl_monthDays)], narrowed := true }
def FnWorkPlusLastUptoSaid : Prop := fnWorkPlusLastUptoRow.holds Tryd.pinned (OpenSpec.upto fnWorkPlusLastSpec)

/-- 'laws.FnWorkDays', WHERE WHAT IT READS IS OF BULK AT MOST 1048576: true; the input reads as it did. -/
def fnWorkDaysUptoRow : OpenClaim := { program := "ytdflacnegkgljaadoor", sum := "ab514e1f898d1e9b9cea089a547b8481327623d05dcfe82646f5103890b34c65", func := "loop.example/datenotation/laws.FnWorkDays", spec := "fnWorkDays", unfollowed := true, recurses := true, named := ["loop.example/datenotation/impl.monthDays"], apart := false, laid := [("loop.example/datenotation/impl.monthDays", laid_loop_example_datenotation_impl_monthDays)], narrowed := true }
def FnWorkDaysUptoSaid : Prop := fnWorkDaysUptoRow.holds Tryd.pinned (OpenSpec.upto fnWorkDaysSpec)

/-- 'laws.FnWorkPlus', WHERE WHAT IT READS IS OF BULK AT MOST 1048576: true; the input reads as it did. -/
def fnWorkPlusUptoRow : OpenClaim := { program := "ytdflacnegkgljaadoor", sum := "ab514e1f898d1e9b9cea089a547b8481327623d05dcfe82646f5103890b34c65", func := "loop.example/datenotation/laws.FnWorkPlus", spec := "fnWorkPlus", unfollowed := true, recurses := true, named := ["loop.example/datenotation/impl.monthDays"], apart := false, laid := [("loop.example/datenotation/impl.monthDays", laid_loop_example_datenotation_impl_monthDays)], narrowed := true }
def FnWorkPlusUptoSaid : Prop := fnWorkPlusUptoRow.holds Tryd.pinned (OpenSpec.upto fnWorkPlusSpec)

end Rows
end Go.Proofs.YtdflacnegkgljaaDoor
