/-
  NARROWER THAN 'FOR EVERY INPUT', by the rows' own cells (each row's printed sentence says how): FnExactRoundDown: laid · FnExactRoundUp: laid · FnExactRoundNear: laid · FnDownTwo: laid · FnDownWhole: laid · FnSpanEmpty: laid · FnExactRepeatValid: laid · FnRepeatPart: laid.
  DERIVED. THE GIVEN ROWS OF THIS SEAT. 8 by the template 'for every input the law returns true; each argument reads behind the call as it read before'; 0 by the template 'total and deterministic' (their statements: YtlhobebaobaoiaaDoorTotals.lean).
  GIVEN WITH THE SEED: the statements are not yours to turn. If you find one false, say at which input.
  Laid BY PROGRAM, IN A SANDBOX (cutbox-rows.mjs): the forced cells as the released guide's own fill.sh prints them over the translation c295836ab99d5845… (all of the seat's roots in one cut). By AI agents, Wed Nov 11 2026. No macro, syntax, notation, axiom, sorry.
-/
import Derived.Test.YtlhobebaobaoiaaDoorChecked
import GoSem.Claim
import GoSem.ClaimJoined
import GoSem.ClaimMapViews
import Derived.JoinedTies
import Derived.KernelRfl
namespace Go.Proofs.YtlhobebaobaoiaaDoor
/- THE CELL 'sum', in the pinned program and in every row, IS THE sha256 OF THE DUMP (.gsa) THAT YtlhobebaobaoiaaDoorProg.lean LOADS. Nothing in Lean hashes anything: it is a label: what it is worth is what the hold of that sum in a sandbox is worth. -/
noncomputable def Tryd.pinned : Pinned := { name := "ytlhobebaobaoiaadoor", sum := "c295836ab99d58456b4e996328a8bff6b981467ada703e0e88b53b995a7e6d04", checked := Tryd.checked }
namespace Rows
def none {H : Type} : Left H := { results := [], args := [] }

/- WHAT THE LISTED PACKAGE-LEVEL VARIABLES READ AS WHEN THE CALL BEGINS. Each datum BY PROGRAM (the guide's laid-datum.mjs) off the statement by which the dump's own 'gosem.cut.vars' lays the variable. In a bare row this is a premise. The card (YtlhobebaobaoiaaDoorCards.lean) ties it to the program's text. -/
def laid_loop_example_datenotation_impl_monthDays {H : Type} : DataW H := .agg [.lit (.int .i64 31), .lit (.int .i64 28), .lit (.int .i64 31), .lit (.int .i64 30), .lit (.int .i64 31), .lit (.int .i64 30), .lit (.int .i64 31), .lit (.int .i64 31), .lit (.int .i64 30), .lit (.int .i64 31), .lit (.int .i64 30), .lit (.int .i64 31)]

/-- 'laws.FnExactRoundDown': WHATEVER THE INPUT: true; the input reads as it did. -/
def fnExactRoundDownSpec : ChangeSpec := { name := "fnExactRoundDown", vars := ["loop.example/datenotation/impl.monthDays"], fn := fun _ => fun
  | [d1, d2, g1] => { results := [.lit (.bool true)], args := [d1, d2], vars := [g1] }
  | _ => none }
def fnExactRoundDownRow : OpenClaim := { program := "ytlhobebaobaoiaadoor", sum := "c295836ab99d58456b4e996328a8bff6b981467ada703e0e88b53b995a7e6d04", func := "loop.example/datenotation/laws.FnExactRoundDown", spec := "fnExactRoundDown", unfollowed := true, recurses := true, named := ["loop.example/datenotation/impl.monthDays"], apart := false, laid := [("loop.example/datenotation/impl.monthDays", laid_loop_example_datenotation_impl_monthDays)] }
def FnExactRoundDownSaid : Prop := fnExactRoundDownRow.holds Tryd.pinned (OpenSpec.ofChange fnExactRoundDownSpec)

/-- ITS FALSE NEIGHBOUR: 'it returns false'. Refute it at one input. -/
def fnExactRoundDownWrong : ChangeSpec := { name := "fnExactRoundDown", vars := ["loop.example/datenotation/impl.monthDays"], fn := fun _ => fun
  | [d1, d2, g1] => { results := [.lit (.bool false)], args := [d1, d2], vars := [g1] }
  | _ => none }
def FnExactRoundDownWrongFalsely : Prop := fnExactRoundDownRow.holds Tryd.pinned (OpenSpec.ofChange fnExactRoundDownWrong)

/-- 'laws.FnExactRoundUp': WHATEVER THE INPUT: true; the input reads as it did. -/
def fnExactRoundUpSpec : ChangeSpec := { name := "fnExactRoundUp", vars := ["loop.example/datenotation/impl.monthDays"], fn := fun _ => fun
  | [d1, d2, g1] => { results := [.lit (.bool true)], args := [d1, d2], vars := [g1] }
  | _ => none }
def fnExactRoundUpRow : OpenClaim := { program := "ytlhobebaobaoiaadoor", sum := "c295836ab99d58456b4e996328a8bff6b981467ada703e0e88b53b995a7e6d04", func := "loop.example/datenotation/laws.FnExactRoundUp", spec := "fnExactRoundUp", unfollowed := true, recurses := true, named := ["loop.example/datenotation/impl.monthDays"], apart := false, laid := [("loop.example/datenotation/impl.monthDays", laid_loop_example_datenotation_impl_monthDays)] }
def FnExactRoundUpSaid : Prop := fnExactRoundUpRow.holds Tryd.pinned (OpenSpec.ofChange fnExactRoundUpSpec)

/-- ITS FALSE NEIGHBOUR: 'it returns false'. Refute it at one input. -/
def fnExactRoundUpWrong : ChangeSpec := { name := "fnExactRoundUp", vars := ["loop.example/datenotation/impl.monthDays"], fn := fun _ => fun
  | [d1, d2, g1] => { results := [.lit (.bool false)], args := [d1, d2], vars := [g1] }
  | _ => none }
def FnExactRoundUpWrongFalsely : Prop := fnExactRoundUpRow.holds Tryd.pinned (OpenSpec.ofChange fnExactRoundUpWrong)

/-- 'laws.FnExactRoundNear': WHATEVER THE INPUT: true; the input reads as it did. -/
def fnExactRoundNearSpec : ChangeSpec := { name := "fnExactRoundNear", vars := ["loop.example/datenotation/impl.monthDays"], fn := fun _ => fun
  | [d1, d2, g1] => { results := [.lit (.bool true)], args := [d1, d2], vars := [g1] }
  | _ => none }
def fnExactRoundNearRow : OpenClaim := { program := "ytlhobebaobaoiaadoor", sum := "c295836ab99d58456b4e996328a8bff6b981467ada703e0e88b53b995a7e6d04", func := "loop.example/datenotation/laws.FnExactRoundNear", spec := "fnExactRoundNear", unfollowed := true, recurses := true, named := ["loop.example/datenotation/impl.monthDays"], apart := false, laid := [("loop.example/datenotation/impl.monthDays", laid_loop_example_datenotation_impl_monthDays)] }
def FnExactRoundNearSaid : Prop := fnExactRoundNearRow.holds Tryd.pinned (OpenSpec.ofChange fnExactRoundNearSpec)

/-- ITS FALSE NEIGHBOUR: 'it returns false'. Refute it at one input. -/
def fnExactRoundNearWrong : ChangeSpec := { name := "fnExactRoundNear", vars := ["loop.example/datenotation/impl.monthDays"], fn := fun _ => fun
  | [d1, d2, g1] => { results := [.lit (.bool false)], args := [d1, d2], vars := [g1] }
  | _ => none }
def FnExactRoundNearWrongFalsely : Prop := fnExactRoundNearRow.holds Tryd.pinned (OpenSpec.ofChange fnExactRoundNearWrong)

/-- 'laws.FnDownTwo': WHATEVER THE INPUT: true; the input reads as it did. -/
def fnDownTwoSpec : ChangeSpec := { name := "fnDownTwo", vars := ["loop.example/datenotation/impl.monthDays"], fn := fun _ => fun
  | [d, g1] => { results := [.lit (.bool true)], args := [d], vars := [g1] }
  | _ => none }
def fnDownTwoRow : OpenClaim := { program := "ytlhobebaobaoiaadoor", sum := "c295836ab99d58456b4e996328a8bff6b981467ada703e0e88b53b995a7e6d04", func := "loop.example/datenotation/laws.FnDownTwo", spec := "fnDownTwo", unfollowed := true, recurses := true, named := ["loop.example/datenotation/impl.monthDays"], apart := false, laid := [("loop.example/datenotation/impl.monthDays", laid_loop_example_datenotation_impl_monthDays)] }
def FnDownTwoSaid : Prop := fnDownTwoRow.holds Tryd.pinned (OpenSpec.ofChange fnDownTwoSpec)

/-- ITS FALSE NEIGHBOUR: 'it returns false'. Refute it at one input. -/
def fnDownTwoWrong : ChangeSpec := { name := "fnDownTwo", vars := ["loop.example/datenotation/impl.monthDays"], fn := fun _ => fun
  | [d, g1] => { results := [.lit (.bool false)], args := [d], vars := [g1] }
  | _ => none }
def FnDownTwoWrongFalsely : Prop := fnDownTwoRow.holds Tryd.pinned (OpenSpec.ofChange fnDownTwoWrong)

/-- 'laws.FnDownWhole': WHATEVER THE INPUT: true; the input reads as it did. -/
def fnDownWholeSpec : ChangeSpec := { name := "fnDownWhole", vars := ["loop.example/datenotation/impl.monthDays"], fn := fun _ => fun
  | [d, g1] => { results := [.lit (.bool true)], args := [d], vars := [g1] }
  | _ => none }
def fnDownWholeRow : OpenClaim := { program := "ytlhobebaobaoiaadoor", sum := "c295836ab99d58456b4e996328a8bff6b981467ada703e0e88b53b995a7e6d04", func := "loop.example/datenotation/laws.FnDownWhole", spec := "fnDownWhole", unfollowed := true, recurses := true, named := ["loop.example/datenotation/impl.monthDays"], apart := false, laid := [("loop.example/datenotation/impl.monthDays", laid_loop_example_datenotation_impl_monthDays)] }
def FnDownWholeSaid : Prop := fnDownWholeRow.holds Tryd.pinned (OpenSpec.ofChange fnDownWholeSpec)

/-- ITS FALSE NEIGHBOUR: 'it returns false'. Refute it at one input. -/
def fnDownWholeWrong : ChangeSpec := { name := "fnDownWhole", vars := ["loop.example/datenotation/impl.monthDays"], fn := fun _ => fun
  | [d, g1] => { results := [.lit (.bool false)], args := [d], vars := [g1] }
  | _ => none }
def FnDownWholeWrongFalsely : Prop := fnDownWholeRow.holds Tryd.pinned (OpenSpec.ofChange fnDownWholeWrong)

/-- 'laws.FnSpanEmpty': WHATEVER THE INPUT: true; the input reads as it did. -/
def fnSpanEmptySpec : ChangeSpec := { name := "fnSpanEmpty", vars := ["loop.example/datenotation/impl.monthDays"], fn := fun _ => fun
  | [d, g1] => { results := [.lit (.bool true)], args := [d], vars := [g1] }
  | _ => none }
def fnSpanEmptyRow : OpenClaim := { program := "ytlhobebaobaoiaadoor", sum := "c295836ab99d58456b4e996328a8bff6b981467ada703e0e88b53b995a7e6d04", func := "loop.example/datenotation/laws.FnSpanEmpty", spec := "fnSpanEmpty", unfollowed := true, recurses := true, named := ["loop.example/datenotation/impl.monthDays"], apart := false, laid := [("loop.example/datenotation/impl.monthDays", laid_loop_example_datenotation_impl_monthDays)] }
def FnSpanEmptySaid : Prop := fnSpanEmptyRow.holds Tryd.pinned (OpenSpec.ofChange fnSpanEmptySpec)

/-- ITS FALSE NEIGHBOUR: 'it returns false'. Refute it at one input. -/
def fnSpanEmptyWrong : ChangeSpec := { name := "fnSpanEmpty", vars := ["loop.example/datenotation/impl.monthDays"], fn := fun _ => fun
  | [d, g1] => { results := [.lit (.bool false)], args := [d], vars := [g1] }
  | _ => none }
def FnSpanEmptyWrongFalsely : Prop := fnSpanEmptyRow.holds Tryd.pinned (OpenSpec.ofChange fnSpanEmptyWrong)

/-- 'laws.FnExactRepeatValid': WHATEVER THE INPUT: true; the input reads as it did. -/
def fnExactRepeatValidSpec : ChangeSpec := { name := "fnExactRepeatValid", vars := ["loop.example/datenotation/impl.monthDays"], fn := fun _ => fun
  | [d, g1] => { results := [.lit (.bool true)], args := [d], vars := [g1] }
  | _ => none }
def fnExactRepeatValidRow : OpenClaim := { program := "ytlhobebaobaoiaadoor", sum := "c295836ab99d58456b4e996328a8bff6b981467ada703e0e88b53b995a7e6d04", func := "loop.example/datenotation/laws.FnExactRepeatValid", spec := "fnExactRepeatValid", named := ["loop.example/datenotation/impl.monthDays"], apart := false, laid := [("loop.example/datenotation/impl.monthDays", laid_loop_example_datenotation_impl_monthDays)] }
def FnExactRepeatValidSaid : Prop := fnExactRepeatValidRow.holds Tryd.pinned (OpenSpec.ofChange fnExactRepeatValidSpec)

/-- ITS FALSE NEIGHBOUR: 'it returns false'. Refute it at one input. -/
def fnExactRepeatValidWrong : ChangeSpec := { name := "fnExactRepeatValid", vars := ["loop.example/datenotation/impl.monthDays"], fn := fun _ => fun
  | [d, g1] => { results := [.lit (.bool false)], args := [d], vars := [g1] }
  | _ => none }
def FnExactRepeatValidWrongFalsely : Prop := fnExactRepeatValidRow.holds Tryd.pinned (OpenSpec.ofChange fnExactRepeatValidWrong)

/-- 'laws.FnRepeatPart': WHATEVER THE INPUT: true; the input reads as it did. -/
def fnRepeatPartSpec : ChangeSpec := { name := "fnRepeatPart", vars := ["loop.example/datenotation/impl.monthDays"], fn := fun _ => fun
  | [d, g1] => { results := [.lit (.bool true)], args := [d], vars := [g1] }
  | _ => none }
def fnRepeatPartRow : OpenClaim := { program := "ytlhobebaobaoiaadoor", sum := "c295836ab99d58456b4e996328a8bff6b981467ada703e0e88b53b995a7e6d04", func := "loop.example/datenotation/laws.FnRepeatPart", spec := "fnRepeatPart", named := ["loop.example/datenotation/impl.monthDays"], apart := false, laid := [("loop.example/datenotation/impl.monthDays", laid_loop_example_datenotation_impl_monthDays)] }
def FnRepeatPartSaid : Prop := fnRepeatPartRow.holds Tryd.pinned (OpenSpec.ofChange fnRepeatPartSpec)

/-- ITS FALSE NEIGHBOUR: 'it returns false'. Refute it at one input. -/
def fnRepeatPartWrong : ChangeSpec := { name := "fnRepeatPart", vars := ["loop.example/datenotation/impl.monthDays"], fn := fun _ => fun
  | [d, g1] => { results := [.lit (.bool false)], args := [d], vars := [g1] }
  | _ => none }
def FnRepeatPartWrongFalsely : Prop := fnRepeatPartRow.holds Tryd.pinned (OpenSpec.ofChange fnRepeatPartWrong)

/- THE SECOND FORM. 'bulk': how many values and letters a reading holds, each counted each time it is reached (what is shared counts as often as it is met; a slice's spare places count too). A statement '..UptoSaid' is the law's where the arguments, and the package variables that the reading takes, are together of bulk at most 1048576: NARROWER than '..Said'. Prove '..Said' where nothing that the law and all that it calls make is longer than what came in: it says more and counts as full. Else prove '..UptoSaid'. A law counts once. -/
mutual
def uptoBulk {H : Type} : DataW H → Nat
  | .lit (.string bytes) => bytes.length + 1
  | .lit _ => 1
  | .nil => 1
  | .ptr d => uptoBulk d + 1
  | .slice elems spare => uptoBulkAll elems + uptoBulkAll spare + 1
  | .agg parts => uptoBulkAll parts + 1
  | .iface _ d => uptoBulk d + 1
  | .map entries => uptoBulkEntries entries + 1
  | .held _ => 1
def uptoBulkAll {H : Type} : List (DataW H) → Nat
  | [] => 0
  | d :: r => uptoBulk d + uptoBulkAll r
def uptoBulkEntries {H : Type} : List (Lit × DataW H) → Nat
  | [] => 0
  | x :: r => uptoBulkEntry x + uptoBulkEntries r
def uptoBulkEntry {H : Type} : Lit × DataW H → Nat
  | (.string bytes, d) => bytes.length + uptoBulk d + 1
  | (_, d) => uptoBulk d + 1
 end
def uptoSmall : (H : Type) → List (DataW H) → Bool := fun _ ds => decide (uptoBulkAll ds ≤ 1048576)
def OpenSpec.upto (s : _root_.Go.ChangeSpec) : _root_.Go.OpenSpec := { _root_.Go.OpenSpec.ofChange s with cond := some uptoSmall }

/-- 'laws.FnExactRoundDown', WHERE WHAT IT READS IS OF BULK AT MOST 1048576: true; the input reads as it did. -/
def fnExactRoundDownUptoRow : OpenClaim := { program := "ytlhobebaobaoiaadoor", sum := "c295836ab99d58456b4e996328a8bff6b981467ada703e0e88b53b995a7e6d04", func := "loop.example/datenotation/laws.FnExactRoundDown", spec := "fnExactRoundDown", unfollowed := true, recurses := true, named := ["loop.example/datenotation/impl.monthDays"], apart := false, laid := [("loop.example/datenotation/impl.monthDays", laid_loop_example_datenotation_impl_monthDays)], narrowed := true }
def FnExactRoundDownUptoSaid : Prop := fnExactRoundDownUptoRow.holds Tryd.pinned (OpenSpec.upto fnExactRoundDownSpec)

/-- 'laws.FnExactRoundUp', WHERE WHAT IT READS IS OF BULK AT MOST 1048576: true; the input reads as it did. -/
def fnExactRoundUpUptoRow : OpenClaim := { program := "ytlhobebaobaoiaadoor", sum := "c295836ab99d58456b4e996328a8bff6b981467ada703e0e88b53b995a7e6d04", func := "loop.example/datenotation/laws.FnExactRoundUp", spec := "fnExactRoundUp", unfollowed := true, recurses := true, named := ["loop.example/datenotation/impl.monthDays"], apart := false, laid := [("loop.example/datenotation/impl.monthDays", laid_loop_example_datenotation_impl_monthDays)], narrowed := true }
def FnExactRoundUpUptoSaid : Prop := fnExactRoundUpUptoRow.holds Tryd.pinned (OpenSpec.upto fnExactRoundUpSpec)

/-- 'laws.FnExactRoundNear', WHERE WHAT IT READS IS OF BULK AT MOST 1048576: true; the input reads as it did. -/
def fnExactRoundNearUptoRow : OpenClaim := { program := "ytlhobebaobaoiaadoor", sum := "c295836ab99d58456b4e996328a8bff6b981467ada703e0e88b53b995a7e6d04", func := "loop.example/datenotation/laws.FnExactRoundNear", spec := "fnExactRoundNear", unfollowed := true, recurses := true, named := ["loop.example/datenotation/impl.monthDays"], apart := false, laid := [("loop.example/datenotation/impl.monthDays", laid_loop_example_datenotation_impl_monthDays)], narrowed := true }
def FnExactRoundNearUptoSaid : Prop := fnExactRoundNearUptoRow.holds Tryd.pinned (OpenSpec.upto fnExactRoundNearSpec)

/-- 'laws.FnDownTwo', WHERE WHAT IT READS IS OF BULK AT MOST 1048576: true; the input reads as it did. -/
def fnDownTwoUptoRow : OpenClaim := { program := "ytlhobebaobaoiaadoor", sum := "c295836ab99d58456b4e996328a8bff6b981467ada703e0e88b53b995a7e6d04", func := "loop.example/datenotation/laws.FnDownTwo", spec := "fnDownTwo", unfollowed := true, recurses := true, named := ["loop.example/datenotation/impl.monthDays"], apart := false, laid := [("loop.example/datenotation/impl.monthDays", laid_loop_example_datenotation_impl_monthDays)], narrowed := true }
def FnDownTwoUptoSaid : Prop := fnDownTwoUptoRow.holds Tryd.pinned (OpenSpec.upto fnDownTwoSpec)

/-- 'laws.FnDownWhole', WHERE WHAT IT READS IS OF BULK AT MOST 1048576: true; the input reads as it did. -/
def fnDownWholeUptoRow : OpenClaim := { program := "ytlhobebaobaoiaadoor", sum := "c295836ab99d58456b4e996328a8bff6b981467ada703e0e88b53b995a7e6d04", func := "loop.example/datenotation/laws.FnDownWhole", spec := "fnDownWhole", unfollowed := true, recurses := true, named := ["loop.example/datenotation/impl.monthDays"], apart := false, laid := [("loop.example/datenotation/impl.monthDays", laid_loop_example_datenotation_impl_monthDays)], narrowed := true }
def FnDownWholeUptoSaid : Prop := fnDownWholeUptoRow.holds Tryd.pinned (OpenSpec.upto fnDownWholeSpec)

/-- 'laws.FnSpanEmpty', WHERE WHAT IT READS IS OF BULK AT MOST 1048576: true; the input reads as it did. -/
def fnSpanEmptyUptoRow : OpenClaim := { program := "ytlhobebaobaoiaadoor", sum := "c295836ab99d58456b4e996328a8bff6b981467ada703e0e88b53b995a7e6d04", func := "loop.example/datenotation/laws.FnSpanEmpty", spec := "fnSpanEmpty", unfollowed := true, recurses := true, named := ["loop.example/datenotation/impl.monthDays"], apart := false, laid := [("loop.example/datenotation/impl.monthDays", laid_loop_example_datenotation_impl_monthDays)], narrowed := true }
def FnSpanEmptyUptoSaid : Prop := fnSpanEmptyUptoRow.holds Tryd.pinned (OpenSpec.upto fnSpanEmptySpec)

/-- 'laws.FnExactRepeatValid', WHERE WHAT IT READS IS OF BULK AT MOST 1048576: true; the input reads as it did. -/
def fnExactRepeatValidUptoRow : OpenClaim := { program := "ytlhobebaobaoiaadoor", sum := "c295836ab99d58456b4e996328a8bff6b981467ada703e0e88b53b995a7e6d04", func := "loop.example/datenotation/laws.FnExactRepeatValid", spec := "fnExactRepeatValid", named := ["loop.example/datenotation/impl.monthDays"], apart := false, laid := [("loop.example/datenotation/impl.monthDays", laid_loop_example_datenotation_impl_monthDays)], narrowed := true }
def FnExactRepeatValidUptoSaid : Prop := fnExactRepeatValidUptoRow.holds Tryd.pinned (OpenSpec.upto fnExactRepeatValidSpec)

/-- 'laws.FnRepeatPart', WHERE WHAT IT READS IS OF BULK AT MOST 1048576: true; the input reads as it did. -/
def fnRepeatPartUptoRow : OpenClaim := { program := "ytlhobebaobaoiaadoor", sum := "c295836ab99d58456b4e996328a8bff6b981467ada703e0e88b53b995a7e6d04", func := "loop.example/datenotation/laws.FnRepeatPart", spec := "fnRepeatPart", named := ["loop.example/datenotation/impl.monthDays"], apart := false, laid := [("loop.example/datenotation/impl.monthDays", laid_loop_example_datenotation_impl_monthDays)], narrowed := true }
def FnRepeatPartUptoSaid : Prop := fnRepeatPartUptoRow.holds Tryd.pinned (OpenSpec.upto fnRepeatPartSpec)

end Rows
end Go.Proofs.YtlhobebaobaoiaaDoor
