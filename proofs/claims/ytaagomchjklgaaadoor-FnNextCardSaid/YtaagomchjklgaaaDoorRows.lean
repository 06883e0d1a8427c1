/-
  NARROWER THAN 'FOR EVERY INPUT', by the rows' own cells (each row's printed sentence says how): FnExactRepeatNext: laid · FnExactRepeatAt: laid · FnRepeatAt: laid · FnRepeatAtPlus: laid · FnRepeatAtLater: laid · FnNext: laid · FnNextAll: laid.
  DERIVED. THE GIVEN ROWS OF THIS SEAT. 7 by the template 'for every input the law returns true; each argument reads behind the call as it read before'; 0 by the template 'total and deterministic' (their statements: YtaagomchjklgaaaDoorTotals.lean).
  GIVEN WITH THE SEED: the statements are not yours to turn. If you find one false, say at which input.
  Laid BY PROGRAM, IN A SANDBOX (cutbox-rows.mjs): the forced cells as the released guide's own fill.sh prints them over the translation bee6cd2a75f822e0… (all of the seat's roots in one cut). By AI agents, Wed Nov 11 2026. No macro, syntax, notation, axiom, sorry.
-/
import Derived.Test.YtaagomchjklgaaaDoorChecked
import GoSem.Claim
import GoSem.ClaimJoined
import GoSem.ClaimMapViews
import Derived.JoinedTies
import Derived.KernelRfl
namespace Go.Proofs.YtaagomchjklgaaaDoor
/- THE CELL 'sum', in the pinned program and in every row, IS THE sha256 OF THE DUMP (.gsa) THAT YtaagomchjklgaaaDoorProg.lean LOADS. Nothing in Lean hashes anything: it is a label: what it is worth is what the hold of that sum in a sandbox is worth. -/
noncomputable def Tryd.pinned : Pinned := { name := "ytaagomchjklgaaadoor", sum := "bee6cd2a75f822e0e3a1241f7fdeb91732fdebb4a0cc26d02215a507c697f7cd", checked := Tryd.checked }
namespace Rows
def none {H : Type} : Left H := { results := [], args := [] }

/- WHAT THE LISTED PACKAGE-LEVEL VARIABLES READ AS WHEN THE CALL BEGINS. Each datum BY PROGRAM (the guide's laid-datum.mjs) off the statement by which the dump's own 'gosem.cut.vars' lays the variable. In a bare row this is a premise. The card (YtaagomchjklgaaaDoorCards.lean) ties it to the program's text. -/
def laid_loop_example_datenotation_impl_monthDays {H : Type} : DataW H := .agg [.lit (.int .i64 31), .lit (.int .i64 28), .lit (.int .i64 31), .lit (.int .i64 30), .lit (.int .i64 31), .lit (.int .i64 30), .lit (.int .i64 31), .lit (.int .i64 31), .lit (.int .i64 30), .lit (.int .i64 31), .lit (.int .i64 30), .lit (.int .i64 31)]

/-- 'laws.FnExactRepeatNext': WHATEVER THE INPUT: true; the input reads as it did. -/
def fnExactRepeatNextSpec : ChangeSpec := { name := "fnExactRepeatNext", vars := ["loop.example/datenotation/impl.monthDays"], fn := fun _ => fun
  | [d1, d2, g1] => { results := [.lit (.bool true)], args := [d1, d2], vars := [g1] }
  | _ => none }
def fnExactRepeatNextRow : OpenClaim := { program := "ytaagomchjklgaaadoor", sum := "bee6cd2a75f822e0e3a1241f7fdeb91732fdebb4a0cc26d02215a507c697f7cd", func := "loop.example/datenotation/laws.FnExactRepeatNext", spec := "fnExactRepeatNext", unfollowed := true, recurses := true, named := ["loop.example/datenotation/impl.monthDays"], apart := false, laid := [("loop.example/datenotation/impl.monthDays", laid_loop_example_datenotation_impl_monthDays)] }
def FnExactRepeatNextSaid : Prop := fnExactRepeatNextRow.holds Tryd.pinned (OpenSpec.ofChange fnExactRepeatNextSpec)

/-- ITS FALSE NEIGHBOUR: 'it returns false'. Refute it at one input. -/
def fnExactRepeatNextWrong : ChangeSpec := { name := "fnExactRepeatNext", vars := ["loop.example/datenotation/impl.monthDays"], fn := fun _ => fun
  | [d1, d2, g1] => { results := [.lit (.bool false)], args := [d1, d2], vars := [g1] }
  | _ => none }
def FnExactRepeatNextWrongFalsely : Prop := fnExactRepeatNextRow.holds Tryd.pinned (OpenSpec.ofChange fnExactRepeatNextWrong)

/-- 'laws.FnExactRepeatAt': WHATEVER THE INPUT: true; the input reads as it did. -/
def fnExactRepeatAtSpec : ChangeSpec := { name := "fnExactRepeatAt", vars := ["loop.example/datenotation/impl.monthDays"], fn := fun _ => fun
  | [d1, d2, g1] => { results := [.lit (.bool true)], args := [d1, d2], vars := [g1] }
  | _ => none }
def fnExactRepeatAtRow : OpenClaim := { program := "ytaagomchjklgaaadoor", sum := "bee6cd2a75f822e0e3a1241f7fdeb91732fdebb4a0cc26d02215a507c697f7cd", func := "loop.example/datenotation/laws.FnExactRepeatAt", spec := "fnExactRepeatAt", unfollowed := true, recurses := true, named := ["loop.example/datenotation/impl.monthDays"], apart := false, laid := [("loop.example/datenotation/impl.monthDays", laid_loop_example_datenotation_impl_monthDays)] }
def FnExactRepeatAtSaid : Prop := fnExactRepeatAtRow.holds Tryd.pinned (OpenSpec.ofChange fnExactRepeatAtSpec)

/-- ITS FALSE NEIGHBOUR: 'it returns false'. Refute it at one input. -/
def fnExactRepeatAtWrong : ChangeSpec := { name := "fnExactRepeatAt", vars := ["loop.example/datenotation/impl.monthDays"], fn := fun _ => fun
  | [d1, d2, g1] => { results := [.lit (.bool false)], args := [d1, d2], vars := [g1] }
  | _ => none }
def FnExactRepeatAtWrongFalsely : Prop := fnExactRepeatAtRow.holds Tryd.pinned (OpenSpec.ofChange fnExactRepeatAtWrong)

/-- 'laws.FnRepeatAt': WHATEVER THE INPUT: true; the input reads as it did. -/
def fnRepeatAtSpec : ChangeSpec := { name := "fnRepeatAt", vars := ["loop.example/datenotation/impl.monthDays"], fn := fun _ => fun
  | [d, g1] => { results := [.lit (.bool true)], args := [d], vars := [g1] }
  | _ => none }
def fnRepeatAtRow : OpenClaim := { program := "ytaagomchjklgaaadoor", sum := "bee6cd2a75f822e0e3a1241f7fdeb91732fdebb4a0cc26d02215a507c697f7cd", func := "loop.example/datenotation/laws.FnRepeatAt", spec := "fnRepeatAt", unfollowed := true, recurses := true, named := ["loop.example/datenotation/impl.monthDays"], apart := false, laid := [("loop.example/datenotation/impl.monthDays", laid_loop_example_datenotation_impl_monthDays)] }
def FnRepeatAtSaid : Prop := fnRepeatAtRow.holds Tryd.pinned (OpenSpec.ofChange fnRepeatAtSpec)

/-- ITS FALSE NEIGHBOUR: 'it returns false'. Refute it at one input. -/
def fnRepeatAtWrong : ChangeSpec := { name := "fnRepeatAt", vars := ["loop.example/datenotation/impl.monthDays"], fn := fun _ => fun
  | [d, g1] => { results := [.lit (.bool false)], args := [d], vars := [g1] }
  | _ => none }
def FnRepeatAtWrongFalsely : Prop := fnRepeatAtRow.holds Tryd.pinned (OpenSpec.ofChange fnRepeatAtWrong)

/-- 'laws.FnRepeatAtPlus': WHATEVER THE INPUT: true; the input reads as it did. -/
def fnRepeatAtPlusSpec : ChangeSpec := { name := "fnRepeatAtPlus", vars := ["loop.example/datenotation/impl.monthDays"], fn := fun _ => fun
  | [d, g1] => { results := [.lit (.bool true)], args := [d], vars := [g1] }
  | _ => none }
def fnRepeatAtPlusRow : OpenClaim := { program := "ytaagomchjklgaaadoor", sum := "bee6cd2a75f822e0e3a1241f7fdeb91732fdebb4a0cc26d02215a507c697f7cd", func := "loop.example/datenotation/laws.FnRepeatAtPlus", spec := "fnRepeatAtPlus", unfollowed := true, recurses := true, named := ["loop.example/datenotation/impl.monthDays"], apart := false, laid := [("loop.example/datenotation/impl.monthDays", laid_loop_example_datenotation_impl_monthDays)] }
def FnRepeatAtPlusSaid : Prop := fnRepeatAtPlusRow.holds Tryd.pinned (OpenSpec.ofChange fnRepeatAtPlusSpec)

/-- ITS FALSE NEIGHBOUR: 'it returns false'. Refute it at one input. -/
def fnRepeatAtPlusWrong : ChangeSpec := { name := "fnRepeatAtPlus", vars := ["loop.example/datenotation/impl.monthDays"], fn := fun _ => fun
  | [d, g1] => { results := [.lit (.bool false)], args := [d], vars := [g1] }
  | _ => none }
def FnRepeatAtPlusWrongFalsely : Prop := fnRepeatAtPlusRow.holds Tryd.pinned (OpenSpec.ofChange fnRepeatAtPlusWrong)

/-- 'laws.FnRepeatAtLater': WHATEVER THE INPUT: true; the input reads as it did. -/
def fnRepeatAtLaterSpec : ChangeSpec := { name := "fnRepeatAtLater", vars := ["loop.example/datenotation/impl.monthDays"], fn := fun _ => fun
  | [d, g1] => { results := [.lit (.bool true)], args := [d], vars := [g1] }
  | _ => none }
def fnRepeatAtLaterRow : OpenClaim := { program := "ytaagomchjklgaaadoor", sum := "bee6cd2a75f822e0e3a1241f7fdeb91732fdebb4a0cc26d02215a507c697f7cd", func := "loop.example/datenotation/laws.FnRepeatAtLater", spec := "fnRepeatAtLater", unfollowed := true, recurses := true, named := ["loop.example/datenotation/impl.monthDays"], apart := false, laid := [("loop.example/datenotation/impl.monthDays", laid_loop_example_datenotation_impl_monthDays)] }
def FnRepeatAtLaterSaid : Prop := fnRepeatAtLaterRow.holds Tryd.pinned (OpenSpec.ofChange fnRepeatAtLaterSpec)

/-- ITS FALSE NEIGHBOUR: 'it returns false'. Refute it at one input. -/
def fnRepeatAtLaterWrong : ChangeSpec := { name := "fnRepeatAtLater", vars := ["loop.example/datenotation/impl.monthDays"], fn := fun _ => fun
  | [d, g1] => { results := [.lit (.bool false)], args := [d], vars := [g1] }
  | _ => none }
def FnRepeatAtLaterWrongFalsely : Prop := fnRepeatAtLaterRow.holds Tryd.pinned (OpenSpec.ofChange fnRepeatAtLaterWrong)

/-- 'laws.FnNext': WHATEVER THE INPUT: true; the input reads as it did. -/
def fnNextSpec : ChangeSpec := { name := "fnNext", vars := ["loop.example/datenotation/impl.monthDays"], fn := fun _ => fun
  | [d, g1] => { results := [.lit (.bool true)], args := [d], vars := [g1] }
  | _ => none }
def fnNextRow : OpenClaim := { program := "ytaagomchjklgaaadoor", sum := "bee6cd2a75f822e0e3a1241f7fdeb91732fdebb4a0cc26d02215a507c697f7cd", func := "loop.example/datenotation/laws.FnNext", spec := "fnNext", unfollowed := true, recurses := true, named := ["loop.example/datenotation/impl.monthDays"], apart := false, laid := [("loop.example/datenotation/impl.monthDays", laid_loop_example_datenotation_impl_monthDays)] }
def FnNextSaid : Prop := fnNextRow.holds Tryd.pinned (OpenSpec.ofChange fnNextSpec)

/-- ITS FALSE NEIGHBOUR: 'it returns false'. Refute it at one input. -/
def fnNextWrong : ChangeSpec := { name := "fnNext", vars := ["loop.example/datenotation/impl.monthDays"], fn := fun _ => fun
  | [d, g1] => { results := [.lit (.bool false)], args := [d], vars := [g1] }
  | _ => none }
def FnNextWrongFalsely : Prop := fnNextRow.holds Tryd.pinned (OpenSpec.ofChange fnNextWrong)

/-- 'laws.FnNextAll': WHATEVER THE INPUT: true; the input reads as it did. -/
def fnNextAllSpec : ChangeSpec := { name := "fnNextAll", vars := ["loop.example/datenotation/impl.monthDays"], fn := fun _ => fun
  | [d, g1] => { results := [.lit (.bool true)], args := [d], vars := [g1] }
  | _ => none }
def fnNextAllRow : OpenClaim := { program := "ytaagomchjklgaaadoor", sum := "bee6cd2a75f822e0e3a1241f7fdeb91732fdebb4a0cc26d02215a507c697f7cd", func := "loop.example/datenotation/laws.FnNextAll", spec := "fnNextAll", unfollowed := true, recurses := true, named := ["loop.example/datenotation/impl.monthDays"], apart := false, laid := [("loop.example/datenotation/impl.monthDays", laid_loop_example_datenotation_impl_monthDays)] }
def FnNextAllSaid : Prop := fnNextAllRow.holds Tryd.pinned (OpenSpec.ofChange fnNextAllSpec)

/-- ITS FALSE NEIGHBOUR: 'it returns false'. Refute it at one input. -/
def fnNextAllWrong : ChangeSpec := { name := "fnNextAll", vars := ["loop.example/datenotation/impl.monthDays"], fn := fun _ => fun
  | [d, g1] => { results := [.lit (.bool false)], args := [d], vars := [g1] }
  | _ => none }
def FnNextAllWrongFalsely : Prop := fnNextAllRow.holds Tryd.pinned (OpenSpec.ofChange fnNextAllWrong)

/- THE SECOND FORM. 'bulk': how many values and letters a reading holds, each counted each time it is reached (what is shared counts as often as it is met; a slice's spare places count too). A statement '..UptoSaid' is the law's where the arguments, and the package variables that the reading takes, are together of bulk at most 1048576: NARROWER than '..Said'. Prove '..Said' where nothing that the law and all that it calls make is longer than what came in: it says more and counts as full. Else prove '..UptoSaid'. A law counts once. -/
mutual
def uptoBulk {H : Type} : DataW H → Nat
  | .lit (.string bytes) => bytes.length + 1
  | .lit _ => 1
  | .nil => 1
  | .ptr d => uptoBulk d + 1
  | .slice elems spare => uptoBulkAll elems + uptoBulkAll spare + 1
  | .agg parts => uptoBulkAll parts + 1
  | .iface _ d => uptoBulk d + 1
  | .map entries => uptoBulkEntries entries + 1
  | .held _ => 1
def uptoBulkAll {H : Type} : List (DataW H) → Nat
  | [] => 0
  | d :: r => uptoBulk d + uptoBulkAll r
def uptoBulkEntries {H : Type} : List (Lit × DataW H) → Nat
  | [] => 0
  | x :: r => uptoBulkEntry x + uptoBulkEntries r
def uptoBulkEntry {H : Type} : Lit × DataW H → Nat
  | (.string bytes, d) => bytes.length + uptoBulk d + 1
  | (_, d) => uptoBulk d + 1
 end
def uptoSmall : (H : Type) → List (DataW H) → Bool := fun _ ds => decide (uptoBulkAll ds ≤ 1048576)
def OpenSpec.upto (s : _root_.Go.ChangeSpec) : _root_.Go.OpenSpec := { _root_.Go.OpenSpec.ofChange s with cond := some uptoSmall }

/-- 'laws.FnExactRepeatNext', WHERE WHAT IT READS IS OF BULK AT MOST 1048576: true; the input reads as it did. -/
def fnExactRepeatNextUptoRow : OpenClaim := { program := "ytaagomchjklgaaadoor", sum := "bee6cd2a75f822e0e3a1241f7fdeb91732fdebb4a0cc26d02215a507c697f7cd", func := "loop.example/datenotation/laws.FnExactRepeatNext", spec := "fnExactRepeatNext", unfollowed := true, recurses := true, named := ["loop.example/datenotation/impl.monthDays"], apart := false, laid := [("loop.example/datenotation/impl.monthDays", laid_loop_example_datenotation_impl_monthDays)], narrowed := true }
def FnExactRepeatNextUptoSaid : Prop := fnExactRepeatNextUptoRow.holds Tryd.pinned (OpenSpec.upto fnExactRepeatNextSpec)

/-- 'laws.FnExactRepeatAt', WHERE WHAT IT READS IS OF BULK AT MOST 1048576: true; the input reads as it did. -/
def fnExactRepeatAtUptoRow : OpenClaim := { program := "ytaagomchjklgaaadoor", sum := "bee6cd2a75f822e0e3a1241f7fdeb91732fdebb4a0cc26d02215a507c697f7cd", func := "loop.example/datenotation/laws.FnExactRepeatAt", spec := "fnExactRepeatAt", unfollowed := true, recurses := true, named := ["loop.example/datenotation/impl.monthDays"], apart := false, laid := [("loop.example/datenotation/impl.monthDays", laid_loop_example_datenotation_impl_monthDays)], narrowed := true }
def FnExactRepeatAtUptoSaid : Prop := fnExactRepeatAtUptoRow.holds Tryd.pinned (OpenSpec.upto fnExactRepeatAtSpec)

/-- 'laws.FnRepeatAt', WHERE WHAT IT READS IS OF BULK AT MOST 1048576: true; the input reads as it did. -/
def fnRepeatAtUptoRow : OpenClaim := { program := "ytaagomchjklgaaadoor", sum := "bee6cd2a75f822e0e3a1241f7fdeb91732fdebb4a0cc26d02215a507c697f7cd", func := "loop.example/datenotation/laws.FnRepeatAt", spec := "fnRepeatAt", unfollowed := true, recurses := true, named := ["loop.example/datenotation/impl.monthDays"], apart := false, laid := [("loop.example/datenotation/impl.monthDays", laid_loop_example_datenotation_impl_monthDays)], narrowed := true }
def FnRepeatAtUptoSaid : Prop := fnRepeatAtUptoRow.holds Tryd.pinned (OpenSpec.upto fnRepeatAtSpec)

/-- 'laws.FnRepeatAtPlus', WHERE WHAT IT READS IS OF BULK AT MOST 1048576: true; the input reads as it did. -/
def fnRepeatAtPlusUptoRow : OpenClaim := { program := "ytaagomchjklgaaadoor", sum := "bee6cd2a75f822e0e3a1241f7fdeb91732fdebb4a0cc26d02215a507c697f7cd", func := "loop.example/datenotation/laws.FnRepeatAtPlus", spec := "fnRepeatAtPlus", unfollowed := true, recurses := true, named := ["loop.example/datenotation/impl.monthDays"], apart := false, laid := [("loop.example/datenotation/impl.monthDays", laid_loop_example_datenotation_impl_monthDays)], narrowed := true }
def FnRepeatAtPlusUptoSaid : Prop := fnRepeatAtPlusUptoRow.holds Tryd.pinned (OpenSpec.upto fnRepeatAtPlusSpec)

/-- 'laws.FnRepeatAtLater', WHERE WHAT IT READS IS OF BULK AT MOST 1048576: true; the input reads as it did. -/
def fnRepeatAtLaterUptoRow : OpenClaim := { program := "ytaagomchjklgaaadoor", sum := "bee6cd2a75f822e0e3a1241f7fdeb91732fdebb4a0cc26d02215a507c697f7cd", func := "loop.example/datenotation/laws.FnRepeatAtLater", spec := "fnRepeatAtLater", unfollowed := true, recurses := true, named := ["loop.example/datenotation/impl.monthDays"], apart := false, laid := [("loop.example/datenotation/impl.monthDays", laid_loop_example_datenotation_impl_monthDays)], narrowed := true }
def FnRepeatAtLaterUptoSaid : Prop := fnRepeatAtLaterUptoRow.holds Tryd.pinned (OpenSpec.upto fnRepeatAtLaterSpec)

/-- 'laws.FnNext', WHERE WHAT IT READS IS OF BULK AT MOST 1048576: true; the input reads as it did. -/
def fnNextUptoRow : OpenClaim := { program := "ytaagomchjklgaaadoor", sum := "bee6cd2a75f822e0e3a1241f7fdeb91732fdebb4a0cc26d02215a507c697f7cd", func := "loop.example/datenotation/laws.FnNext", spec := "fnNext", unfollowed := true, recurses := true, named := ["loop.example/datenotation/impl.monthDays"], apart := false, laid := [("loop.example/datenotation/impl.monthDays", laid_loop_example_datenotation_impl_monthDays)], narrowed := true }
def FnNextUptoSaid : Prop := fnNextUptoRow.holds Tryd.pinned (OpenSpec.upto fnNextSpec)

/-- 'laws.FnNextAll', WHERE WHAT IT READS IS OF BULK AT MOST 1048576: true; the input reads as it did. -/
def fnNextAllUptoRow : OpenClaim := { program := "ytaagomchjklgaaadoor", sum := "bee6cd2a75f822e0e3a1241f7fdeb91732fdebb4a0cc26d02215a507c697f7cd", func := "loop.example/datenotation/laws.FnNextAll", spec := "fnNextAll", unfollowed := true, recurses := true, named := ["loop.example/datenotation/impl.monthDays"], apart := false, laid := [("loop.example/datenotation/impl.monthDays", laid_loop_example_datenotation_impl_monthDays)], narrowed := true }
def FnNextAllUptoSaid : Prop := fnNextAllUptoRow.holds Tryd.pinned (OpenSpec.upto fnNextAllSpec)

end Rows
end Go.Proofs.YtaagomchjklgaaaDoor
