/-
  NARROWER THAN 'FOR EVERY INPUT', by the rows' own cells (each row's printed sentence says how): FnExactZoneStamp: laid · FnZoneStamp: laid · FnZoneInstantsTwo: laid · FnExactZonePick: laid · FnZoneStampBack: laid · FnZoneInstantsNone: laid · FnExactZoneInstants: laid · FnZoneInstants: laid · FnPickWhen: laid · FnPick: laid · FnPickGap: laid.
  DERIVED. THE GIVEN ROWS OF THIS SEAT. 11 by the template 'for every input the law returns true; each argument reads behind the call as it read before'; 0 by the template 'total and deterministic' (their statements: YtjdlffkbhaieaaaDoorTotals.lean).
  GIVEN WITH THE SEED: the statements are not yours to turn. If you find one false, say at which input.
  Laid BY PROGRAM, IN A SANDBOX (cutbox-rows.mjs): the forced cells as the released guide's own fill.sh prints them over the translation 3394dcae3ff66714… (all of the seat's roots in one cut). By AI agents, Wed Nov 11 2026. No macro, syntax, notation, axiom, sorry.
-/
import Derived.Test.YtjdlffkbhaieaaaDoorChecked
import GoSem.Claim
import GoSem.ClaimJoined
import GoSem.ClaimMapViews
import Derived.JoinedTies
import Derived.KernelRfl
namespace Go.Proofs.YtjdlffkbhaieaaaDoor
/- THE CELL 'sum', in the pinned program and in every row, IS THE sha256 OF THE DUMP (.gsa) THAT YtjdlffkbhaieaaaDoorProg.lean LOADS. Nothing in Lean hashes anything: it is a label: what it is worth is what the hold of that sum in a sandbox is worth. -/
noncomputable def Tryd.pinned : Pinned := { name := "ytjdlffkbhaieaaadoor", sum := "3394dcae3ff667148b27255abd76dfa7f33c62c698f72a0f86439c2cbf3f154f", checked := Tryd.checked }
namespace Rows
def none {H : Type} : Left H := { results := [], args := [] }

/- WHAT THE LISTED PACKAGE-LEVEL VARIABLES READ AS WHEN THE CALL BEGINS. Each datum BY PROGRAM (the guide's laid-datum.mjs) off the statement by which the dump's own 'gosem.cut.vars' lays the variable. In a bare row this is a premise. The card (YtjdlffkbhaieaaaDoorCards.lean) ties it to the program's text. -/
def laid_loop_example_datenotation_impl_monthDays {H : Type} : DataW H := .agg [.lit (.int .i64 31), .lit (.int .i64 28), .lit (.int .i64 31), .lit (.int .i64 30), .lit (.int .i64 31), .lit (.int .i64 30), .lit (.int .i64 31), .lit (.int .i64 31), .lit (.int .i64 30), .lit (.int .i64 31), .lit (.int .i64 30), .lit (.int .i64 31)]

/-- 'laws.FnExactZoneStamp': WHATEVER THE INPUT: true; the input reads as it did. -/
def fnExactZoneStampSpec : ChangeSpec := { name := "fnExactZoneStamp", vars := ["loop.example/datenotation/impl.monthDays"], fn := fun _ => fun
  | [d1, d2, g1] => { results := [.lit (.bool true)], args := [d1, d2], vars := [g1] }
  | _ => none }
def fnExactZoneStampRow : OpenClaim := { program := "ytjdlffkbhaieaaadoor", sum := "3394dcae3ff667148b27255abd76dfa7f33c62c698f72a0f86439c2cbf3f154f", func := "loop.example/datenotation/laws.FnExactZoneStamp", spec := "fnExactZoneStamp", recurses := true, named := ["loop.example/datenotation/impl.monthDays"], apart := false, laid := [("loop.example/datenotation/impl.monthDays", laid_loop_example_datenotation_impl_monthDays)] }
def FnExactZoneStampSaid : Prop := fnExactZoneStampRow.holds Tryd.pinned (OpenSpec.ofChange fnExactZoneStampSpec)

/-- ITS FALSE NEIGHBOUR: 'it returns false'. Refute it at one input. -/
def fnExactZoneStampWrong : ChangeSpec := { name := "fnExactZoneStamp", vars := ["loop.example/datenotation/impl.monthDays"], fn := fun _ => fun
  | [d1, d2, g1] => { results := [.lit (.bool false)], args := [d1, d2], vars := [g1] }
  | _ => none }
def FnExactZoneStampWrongFalsely : Prop := fnExactZoneStampRow.holds Tryd.pinned (OpenSpec.ofChange fnExactZoneStampWrong)

/-- 'laws.FnZoneStamp': WHATEVER THE INPUT: true; the input reads as it did. -/
def fnZoneStampSpec : ChangeSpec := { name := "fnZoneStamp", vars := ["loop.example/datenotation/impl.monthDays"], fn := fun _ => fun
  | [d, g1] => { results := [.lit (.bool true)], args := [d], vars := [g1] }
  | _ => none }
def fnZoneStampRow : OpenClaim := { program := "ytjdlffkbhaieaaadoor", sum := "3394dcae3ff667148b27255abd76dfa7f33c62c698f72a0f86439c2cbf3f154f", func := "loop.example/datenotation/laws.FnZoneStamp", spec := "fnZoneStamp", recurses := true, named := ["loop.example/datenotation/impl.monthDays"], apart := false, laid := [("loop.example/datenotation/impl.monthDays", laid_loop_example_datenotation_impl_monthDays)] }
def FnZoneStampSaid : Prop := fnZoneStampRow.holds Tryd.pinned (OpenSpec.ofChange fnZoneStampSpec)

/-- ITS FALSE NEIGHBOUR: 'it returns false'. Refute it at one input. -/
def fnZoneStampWrong : ChangeSpec := { name := "fnZoneStamp", vars := ["loop.example/datenotation/impl.monthDays"], fn := fun _ => fun
  | [d, g1] => { results := [.lit (.bool false)], args := [d], vars := [g1] }
  | _ => none }
def FnZoneStampWrongFalsely : Prop := fnZoneStampRow.holds Tryd.pinned (OpenSpec.ofChange fnZoneStampWrong)

/-- 'laws.FnZoneInstantsTwo': WHATEVER THE INPUT: true; the input reads as it did. -/
def fnZoneInstantsTwoSpec : ChangeSpec := { name := "fnZoneInstantsTwo", vars := ["loop.example/datenotation/impl.monthDays"], fn := fun _ => fun
  | [d, g1] => { results := [.lit (.bool true)], args := [d], vars := [g1] }
  | _ => none }
def fnZoneInstantsTwoRow : OpenClaim := { program := "ytjdlffkbhaieaaadoor", sum := "3394dcae3ff667148b27255abd76dfa7f33c62c698f72a0f86439c2cbf3f154f", func := "loop.example/datenotation/laws.FnZoneInstantsTwo", spec := "fnZoneInstantsTwo", recurses := true, named := ["loop.example/datenotation/impl.monthDays"], apart := false, laid := [("loop.example/datenotation/impl.monthDays", laid_loop_example_datenotation_impl_monthDays)] }
def FnZoneInstantsTwoSaid : Prop := fnZoneInstantsTwoRow.holds Tryd.pinned (OpenSpec.ofChange fnZoneInstantsTwoSpec)

/-- ITS FALSE NEIGHBOUR: 'it returns false'. Refute it at one input. -/
def fnZoneInstantsTwoWrong : ChangeSpec := { name := "fnZoneInstantsTwo", vars := ["loop.example/datenotation/impl.monthDays"], fn := fun _ => fun
  | [d, g1] => { results := [.lit (.bool false)], args := [d], vars := [g1] }
  | _ => none }
def FnZoneInstantsTwoWrongFalsely : Prop := fnZoneInstantsTwoRow.holds Tryd.pinned (OpenSpec.ofChange fnZoneInstantsTwoWrong)

/-- 'laws.FnExactZonePick': WHATEVER THE INPUT: true; the input reads as it did. -/
def fnExactZonePickSpec : ChangeSpec := { name := "fnExactZonePick", vars := ["loop.example/datenotation/impl.monthDays"], fn := fun _ => fun
  | [d1, d2, d3, d4, g1] => { results := [.lit (.bool true)], args := [d1, d2, d3, d4], vars := [g1] }
  | _ => none }
def fnExactZonePickRow : OpenClaim := { program := "ytjdlffkbhaieaaadoor", sum := "3394dcae3ff667148b27255abd76dfa7f33c62c698f72a0f86439c2cbf3f154f", func := "loop.example/datenotation/laws.FnExactZonePick", spec := "fnExactZonePick", recurses := true, named := ["loop.example/datenotation/impl.monthDays"], apart := false, laid := [("loop.example/datenotation/impl.monthDays", laid_loop_example_datenotation_impl_monthDays)] }
def FnExactZonePickSaid : Prop := fnExactZonePickRow.holds Tryd.pinned (OpenSpec.ofChange fnExactZonePickSpec)

/-- ITS FALSE NEIGHBOUR: 'it returns false'. Refute it at one input. -/
def fnExactZonePickWrong : ChangeSpec := { name := "fnExactZonePick", vars := ["loop.example/datenotation/impl.monthDays"], fn := fun _ => fun
  | [d1, d2, d3, d4, g1] => { results := [.lit (.bool false)], args := [d1, d2, d3, d4], vars := [g1] }
  | _ => none }
def FnExactZonePickWrongFalsely : Prop := fnExactZonePickRow.holds Tryd.pinned (OpenSpec.ofChange fnExactZonePickWrong)

/-- 'laws.FnZoneStampBack': WHATEVER THE INPUT: true; the input reads as it did. -/
def fnZoneStampBackSpec : ChangeSpec := { name := "fnZoneStampBack", vars := ["loop.example/datenotation/impl.monthDays"], fn := fun _ => fun
  | [d, g1] => { results := [.lit (.bool true)], args := [d], vars := [g1] }
  | _ => none }
def fnZoneStampBackRow : OpenClaim := { program := "ytjdlffkbhaieaaadoor", sum := "3394dcae3ff667148b27255abd76dfa7f33c62c698f72a0f86439c2cbf3f154f", func := "loop.example/datenotation/laws.FnZoneStampBack", spec := "fnZoneStampBack", recurses := true, named := ["loop.example/datenotation/impl.monthDays"], apart := false, laid := [("loop.example/datenotation/impl.monthDays", laid_loop_example_datenotation_impl_monthDays)] }
def FnZoneStampBackSaid : Prop := fnZoneStampBackRow.holds Tryd.pinned (OpenSpec.ofChange fnZoneStampBackSpec)

/-- ITS FALSE NEIGHBOUR: 'it returns false'. Refute it at one input. -/
def fnZoneStampBackWrong : ChangeSpec := { name := "fnZoneStampBack", vars := ["loop.example/datenotation/impl.monthDays"], fn := fun _ => fun
  | [d, g1] => { results := [.lit (.bool false)], args := [d], vars := [g1] }
  | _ => none }
def FnZoneStampBackWrongFalsely : Prop := fnZoneStampBackRow.holds Tryd.pinned (OpenSpec.ofChange fnZoneStampBackWrong)

/-- 'laws.FnZoneInstantsNone': WHATEVER THE INPUT: true; the input reads as it did. -/
def fnZoneInstantsNoneSpec : ChangeSpec := { name := "fnZoneInstantsNone", vars := ["loop.example/datenotation/impl.monthDays"], fn := fun _ => fun
  | [d, g1] => { results := [.lit (.bool true)], args := [d], vars := [g1] }
  | _ => none }
def fnZoneInstantsNoneRow : OpenClaim := { program := "ytjdlffkbhaieaaadoor", sum := "3394dcae3ff667148b27255abd76dfa7f33c62c698f72a0f86439c2cbf3f154f", func := "loop.example/datenotation/laws.FnZoneInstantsNone", spec := "fnZoneInstantsNone", recurses := true, named := ["loop.example/datenotation/impl.monthDays"], apart := false, laid := [("loop.example/datenotation/impl.monthDays", laid_loop_example_datenotation_impl_monthDays)] }
def FnZoneInstantsNoneSaid : Prop := fnZoneInstantsNoneRow.holds Tryd.pinned (OpenSpec.ofChange fnZoneInstantsNoneSpec)

/-- ITS FALSE NEIGHBOUR: 'it returns false'. Refute it at one input. -/
def fnZoneInstantsNoneWrong : ChangeSpec := { name := "fnZoneInstantsNone", vars := ["loop.example/datenotation/impl.monthDays"], fn := fun _ => fun
  | [d, g1] => { results := [.lit (.bool false)], args := [d], vars := [g1] }
  | _ => none }
def FnZoneInstantsNoneWrongFalsely : Prop := fnZoneInstantsNoneRow.holds Tryd.pinned (OpenSpec.ofChange fnZoneInstantsNoneWrong)

/-- 'laws.FnExactZoneInstants': WHATEVER THE INPUT: true; the input reads as it did. -/
def fnExactZoneInstantsSpec : ChangeSpec := { name := "fnExactZoneInstants", vars := ["loop.example/datenotation/impl.monthDays"], fn := fun _ => fun
  | [d1, d2, d3, g1] => { results := [.lit (.bool true)], args := [d1, d2, d3], vars := [g1] }
  | _ => none }
def fnExactZoneInstantsRow : OpenClaim := { program := "ytjdlffkbhaieaaadoor", sum := "3394dcae3ff667148b27255abd76dfa7f33c62c698f72a0f86439c2cbf3f154f", func := "loop.example/datenotation/laws.FnExactZoneInstants", spec := "fnExactZoneInstants", recurses := true, named := ["loop.example/datenotation/impl.monthDays"], apart := false, laid := [("loop.example/datenotation/impl.monthDays", laid_loop_example_datenotation_impl_monthDays)] }
def FnExactZoneInstantsSaid : Prop := fnExactZoneInstantsRow.holds Tryd.pinned (OpenSpec.ofChange fnExactZoneInstantsSpec)

/-- ITS FALSE NEIGHBOUR: 'it returns false'. Refute it at one input. -/
def fnExactZoneInstantsWrong : ChangeSpec := { name := "fnExactZoneInstants", vars := ["loop.example/datenotation/impl.monthDays"], fn := fun _ => fun
  | [d1, d2, d3, g1] => { results := [.lit (.bool false)], args := [d1, d2, d3], vars := [g1] }
  | _ => none }
def FnExactZoneInstantsWrongFalsely : Prop := fnExactZoneInstantsRow.holds Tryd.pinned (OpenSpec.ofChange fnExactZoneInstantsWrong)

/-- 'laws.FnZoneInstants': WHATEVER THE INPUT: true; the input reads as it did. -/
def fnZoneInstantsSpec : ChangeSpec := { name := "fnZoneInstants", vars := ["loop.example/datenotation/impl.monthDays"], fn := fun _ => fun
  | [d, g1] => { results := [.lit (.bool true)], args := [d], vars := [g1] }
  | _ => none }
def fnZoneInstantsRow : OpenClaim := { program := "ytjdlffkbhaieaaadoor", sum := "3394dcae3ff667148b27255abd76dfa7f33c62c698f72a0f86439c2cbf3f154f", func := "loop.example/datenotation/laws.FnZoneInstants", spec := "fnZoneInstants", recurses := true, named := ["loop.example/datenotation/impl.monthDays"], apart := false, laid := [("loop.example/datenotation/impl.monthDays", laid_loop_example_datenotation_impl_monthDays)] }
def FnZoneInstantsSaid : Prop := fnZoneInstantsRow.holds Tryd.pinned (OpenSpec.ofChange fnZoneInstantsSpec)

/-- ITS FALSE NEIGHBOUR: 'it returns false'. Refute it at one input. -/
def fnZoneInstantsWrong : ChangeSpec := { name := "fnZoneInstants", vars := ["loop.example/datenotation/impl.monthDays"], fn := fun _ => fun
  | [d, g1] => { results := [.lit (.bool false)], args := [d], vars := [g1] }
  | _ => none }
def FnZoneInstantsWrongFalsely : Prop := fnZoneInstantsRow.holds Tryd.pinned (OpenSpec.ofChange fnZoneInstantsWrong)

/-- 'laws.FnPickWhen': WHATEVER THE INPUT: true; the input reads as it did. -/
def fnPickWhenSpec : ChangeSpec := { name := "fnPickWhen", vars := ["loop.example/datenotation/impl.monthDays"], fn := fun _ => fun
  | [d, g1] => { results := [.lit (.bool true)], args := [d], vars := [g1] }
  | _ => none }
def fnPickWhenRow : OpenClaim := { program := "ytjdlffkbhaieaaadoor", sum := "3394dcae3ff667148b27255abd76dfa7f33c62c698f72a0f86439c2cbf3f154f", func := "loop.example/datenotation/laws.FnPickWhen", spec := "fnPickWhen", recurses := true, named := ["loop.example/datenotation/impl.monthDays"], apart := false, laid := [("loop.example/datenotation/impl.monthDays", laid_loop_example_datenotation_impl_monthDays)] }
def FnPickWhenSaid : Prop := fnPickWhenRow.holds Tryd.pinned (OpenSpec.ofChange fnPickWhenSpec)

/-- ITS FALSE NEIGHBOUR: 'it returns false'. Refute it at one input. -/
def fnPickWhenWrong : ChangeSpec := { name := "fnPickWhen", vars := ["loop.example/datenotation/impl.monthDays"], fn := fun _ => fun
  | [d, g1] => { results := [.lit (.bool false)], args := [d], vars := [g1] }
  | _ => none }
def FnPickWhenWrongFalsely : Prop := fnPickWhenRow.holds Tryd.pinned (OpenSpec.ofChange fnPickWhenWrong)

/-- 'laws.FnPick': WHATEVER THE INPUT: true; the input reads as it did. -/
def fnPickSpec : ChangeSpec := { name := "fnPick", vars := ["loop.example/datenotation/impl.monthDays"], fn := fun _ => fun
  | [d, g1] => { results := [.lit (.bool true)], args := [d], vars := [g1] }
  | _ => none }
def fnPickRow : OpenClaim := { program := "ytjdlffkbhaieaaadoor", sum := "3394dcae3ff667148b27255abd76dfa7f33c62c698f72a0f86439c2cbf3f154f", func := "loop.example/datenotation/laws.FnPick", spec := "fnPick", recurses := true, named := ["loop.example/datenotation/impl.monthDays"], apart := false, laid := [("loop.example/datenotation/impl.monthDays", laid_loop_example_datenotation_impl_monthDays)] }
def FnPickSaid : Prop := fnPickRow.holds Tryd.pinned (OpenSpec.ofChange fnPickSpec)

/-- ITS FALSE NEIGHBOUR: 'it returns false'. Refute it at one input. -/
def fnPickWrong : ChangeSpec := { name := "fnPick", vars := ["loop.example/datenotation/impl.monthDays"], fn := fun _ => fun
  | [d, g1] => { results := [.lit (.bool false)], args := [d], vars := [g1] }
  | _ => none }
def FnPickWrongFalsely : Prop := fnPickRow.holds Tryd.pinned (OpenSpec.ofChange fnPickWrong)

/-- 'laws.FnPickGap': WHATEVER THE INPUT: true; the input reads as it did. -/
def fnPickGapSpec : ChangeSpec := { name := "fnPickGap", vars := ["loop.example/datenotation/impl.monthDays"], fn := fun _ => fun
  | [d, g1] => { results := [.lit (.bool true)], args := [d], vars := [g1] }
  | _ => none }
def fnPickGapRow : OpenClaim := { program := "ytjdlffkbhaieaaadoor", sum := "3394dcae3ff667148b27255abd76dfa7f33c62c698f72a0f86439c2cbf3f154f", func := "loop.example/datenotation/laws.FnPickGap", spec := "fnPickGap", recurses := true, named := ["loop.example/datenotation/impl.monthDays"], apart := false, laid := [("loop.example/datenotation/impl.monthDays", laid_loop_example_datenotation_impl_monthDays)] }
def FnPickGapSaid : Prop := fnPickGapRow.holds Tryd.pinned (OpenSpec.ofChange fnPickGapSpec)

/-- ITS FALSE NEIGHBOUR: 'it returns false'. Refute it at one input. -/
def fnPickGapWrong : ChangeSpec := { name := "fnPickGap", vars := ["loop.example/datenotation/impl.monthDays"], fn := fun _ => fun
  | [d, g1] => { results := [.lit (.bool false)], args := [d], vars := [g1] }
  | _ => none }
def FnPickGapWrongFalsely : Prop := fnPickGapRow.holds Tryd.pinned (OpenSpec.ofChange fnPickGapWrong)

/- THE SECOND FORM. 'bulk': how many values and letters a reading holds, each counted each time it is reached (what is shared counts as often as it is met; a slice's spare places count too). A statement '..UptoSaid' is the law's where the arguments, and the package variables that the reading takes, are together of bulk at most 1048576: NARROWER than '..Said'. Prove '..Said' where nothing that the law and all that it calls make is longer than what came in: it says more and counts as full. Else prove '..UptoSaid'. A law counts once. -/
mutual
def uptoBulk {H : Type} : DataW H → Nat
  | .lit (.string bytes) => bytes.length + 1
  | .lit _ => 1
  | .nil => 1
  | .ptr d => uptoBulk d + 1
  | .slice elems spare => uptoBulkAll elems + uptoBulkAll spare + 1
  | .agg parts => uptoBulkAll parts + 1
  | .iface _ d => uptoBulk d + 1
  | .map entries => uptoBulkEntries entries + 1
  | .held _ => 1
def uptoBulkAll {H : Type} : List (DataW H) → Nat
  | [] => 0
  | d :: r => uptoBulk d + uptoBulkAll r
def uptoBulkEntries {H : Type} : List (Lit × DataW H) → Nat
  | [] => 0
  | x :: r => uptoBulkEntry x + uptoBulkEntries r
def uptoBulkEntry {H : Type} : Lit × DataW H → Nat
  | (.string bytes, d) => bytes.length + uptoBulk d + 1
  | (_, d) => uptoBulk d + 1
 end
def uptoSmall : (H : Type) → List (DataW H) → Bool := fun _ ds => decide (uptoBulkAll ds ≤ 1048576)
def OpenSpec.upto (s : _root_.Go.ChangeSpec) : _root_.Go.OpenSpec := { _root_.Go.OpenSpec.ofChange s with cond := some uptoSmall }

/-- 'laws.FnExactZoneStamp', WHERE WHAT IT READS IS OF BULK AT MOST 1048576: true; the input reads as it did. -/
def fnExactZoneStampUptoRow : OpenClaim := { program := "ytjdlffkbhaieaaadoor", sum := "3394dcae3ff667148b27255abd76dfa7f33c62c698f72a0f86439c2cbf3f154f", func := "loop.example/datenotation/laws.FnExactZoneStamp", spec := "fnExactZoneStamp", recurses := true, named := ["loop.example/datenotation/impl.monthDays"], apart := false, laid := [("loop.example/datenotation/impl.monthDays", laid_loop_example_datenotation_impl_monthDays)], narrowed := true }
def FnExactZoneStampUptoSaid : Prop := fnExactZoneStampUptoRow.holds Tryd.pinned (OpenSpec.upto fnExactZoneStampSpec)

/-- 'laws.FnZoneStamp', WHERE WHAT IT READS IS OF BULK AT MOST 1048576: true; the input reads as it did. -/
def fnZoneStampUptoRow : OpenClaim := { program := "ytjdlffkbhaieaaadoor", sum := "3394dcae3ff667148b27255abd76dfa7f33c62c698f72a0f86439c2cbf3f154f", func := "loop.example/datenotation/laws.FnZoneStamp", spec := "fnZoneStamp", recurses := true, named := ["loop.example/datenotation/impl.monthDays"], apart := false, laid := [("loop.example/datenotation/impl.monthDays", laid_loop_example_datenotation_impl_monthDays)], narrowed := true }
def FnZoneStampUptoSaid : Prop := fnZoneStampUptoRow.holds Tryd.pinned (OpenSpec.upto fnZoneStampSpec)

/-- 'laws.FnZoneInstantsTwo', WHERE WHAT IT READS IS OF BULK AT MOST 1048576: true; the input reads as it did. -/
def fnZoneInstantsTwoUptoRow : OpenClaim := { program := "ytjdlffkbhaieaaadoor", sum := "3394dcae3ff667148b27255abd76dfa7f33c62c698f72a0f86439c2cbf3f154f", func := "loop.example/datenotation/laws.FnZoneInstantsTwo", spec := "fnZoneInstantsTwo", recurses := true, named := ["loop.example/datenotation/impl.monthDays"], apart := false, laid := [("loop.example/datenotation/impl.monthDays", laid_loop_example_datenotation_impl_monthDays)], narrowed := true }
def FnZoneInstantsTwoUptoSaid : Prop := fnZoneInstantsTwoUptoRow.holds Tryd.pinned (OpenSpec.upto fnZoneInstantsTwoSpec)

/-- 'laws.FnExactZonePick', WHERE WHAT IT READS IS OF BULK AT MOST 1048576: true; the input reads as it did. -/
def fnExactZonePickUptoRow : OpenClaim := { program := "ytjdlffkbhaieaaadoor", sum := "3394dcae3ff667148b27255abd76dfa7f33c62c698f72a0f86439c2cbf3f154f", func := "loop.example/datenotation/laws.FnExactZonePick", spec := "fnExactZonePick", recurses := true, named := ["loop.example/datenotation/impl.monthDays"], apart := false, laid := [("loop.example/datenotation/impl.monthDays", laid_loop_example_datenotation_impl_monthDays)], narrowed := true }
def FnExactZonePickUptoSaid : Prop := fnExactZonePickUptoRow.holds Tryd.pinned (OpenSpec.upto fnExactZonePickSpec)

/-- 'laws.FnZoneStampBack', WHERE WHAT IT READS IS OF BULK AT MOST 1048576: true; the input reads as it did. -/
def fnZoneStampBackUptoRow : OpenClaim := { program := "ytjdlffkbhaieaaadoor", sum := "3394dcae3ff667148b27255abd76dfa7f33c62c698f72a0f86439c2cbf3f154f", func := "loop.example/datenotation/laws.FnZoneStampBack", spec := "fnZoneStampBack", recurses := true, named := ["loop.example/datenotation/impl.monthDays"], apart := false, laid := [("loop.example/datenotation/impl.monthDays", laid_loop_example_datenotation_impl_monthDays)], narrowed := true }
def FnZoneStampBackUptoSaid : Prop := fnZoneStampBackUptoRow.holds Tryd.pinned (OpenSpec.upto fnZoneStampBackSpec)

/-- 'laws.FnZoneInstantsNone', WHERE WHAT IT READS IS OF BULK AT MOST 1048576: true; the input reads as it did. -/
def fnZoneInstantsNoneUptoRow : OpenClaim := { program := "ytjdlffkbhaieaaadoor", sum := "3394dcae3ff667148b27255abd76dfa7f33c62c698f72a0f86439c2cbf3f154f", func := "loop.example/datenotation/laws.FnZoneInstantsNone", spec := "fnZoneInstantsNone", recurses := true, named := ["loop.example/datenotation/impl.monthDays"], apart := false, laid := [("loop.example/datenotation/impl.monthDays", laid_loop_example_datenotation_impl_monthDays)], narrowed := true }
def FnZoneInstantsNoneUptoSaid : Prop := fnZoneInstantsNoneUptoRow.holds Tryd.pinned (OpenSpec.upto fnZoneInstantsNoneSpec)

/-- 'laws.FnExactZoneInstants', WHERE WHAT IT READS IS OF BULK AT MOST 1048576: true; the input reads as it did. -/
def fnExactZoneInstantsUptoRow : OpenClaim := { program := "ytjdlffkbhaieaaadoor", sum := "3394dcae3ff667148b27255abd76dfa7f33c62c698f72a0f86439c2cbf3f154f", func := "loop.example/datenotation/laws.FnExactZoneInstants", spec := "fnExactZoneInstants", recurses := true, named := ["loop.example/datenotation/impl.monthDays"], apart := false, laid := [("loop.example/datenotation/impl.monthDays", laid_loop_example_datenotation_impl_monthDays)], narrowed := true }
def FnExactZoneInstantsUptoSaid : Prop := fnExactZoneInstantsUptoRow.holds Tryd.pinned (OpenSpec.upto fnExactZoneInstantsSpec)

/-- 'laws.FnZoneInstants', WHERE WHAT IT READS IS OF BULK AT MOST 1048576: true; the input reads as it did. -/
def fnZoneInstantsUptoRow : OpenClaim := { program := "ytjdlffkbhaieaaadoor", sum := "3394dcae3ff667148b27255abd76dfa7f33c62c698f72a0f86439c2cbf3f154f", func := "loop.example/datenotation/laws.FnZoneInstants", spec := "fnZoneInstants", recurses := true, named := ["loop.example/datenotation/impl.monthDays"], apart := false, laid := [("loop.example/datenotation/impl.monthDays", laid_loop_example_datenotation_impl_monthDays)], narrowed := true }
def FnZoneInstantsUptoSaid : Prop := fnZoneInstantsUptoRow.holds Tryd.pinned (OpenSpec.upto fnZoneInstantsSpec)

/-- 'laws.FnPickWhen', WHERE WHAT IT READS IS OF BULK AT MOST 1048576: true; the input reads as it did. -/
def fnPickWhenUptoRow : OpenClaim := { program := "ytjdlffkbhaieaaadoor", sum := "3394dcae3ff667148b27255abd76dfa7f33c62c698f72a0f86439c2cbf3f154f", func := "loop.example/datenotation/laws.FnPickWhen", spec := "fnPickWhen", recurses := true, named := ["loop.example/datenotation/impl.monthDays"], apart := false, laid := [("loop.example/datenotation/impl.monthDays", laid_loop_example_datenotation_impl_monthDays)], narrowed := true }
def FnPickWhenUptoSaid : Prop := fnPickWhenUptoRow.holds Tryd.pinned (OpenSpec.upto fnPickWhenSpec)

/-- 'laws.FnPick', WHERE WHAT IT READS IS OF BULK AT MOST 1048576: true; the input reads as it did. -/
def fnPickUptoRow : OpenClaim := { program := "ytjdlffkbhaieaaadoor", sum := "3394dcae3ff667148b27255abd76dfa7f33c62c698f72a0f86439c2cbf3f154f", func := "loop.example/datenotation/laws.FnPick", spec := "fnPick", recurses := true, named := ["loop.example/datenotation/impl.monthDays"], apart := false, laid := [("loop.example/datenotation/impl.monthDays", laid_loop_example_datenotation_impl_monthDays)], narrowed := true }
def FnPickUptoSaid : Prop := fnPickUptoRow.holds Tryd.pinned (OpenSpec.upto fnPickSpec)

/-- 'laws.FnPickGap', WHERE WHAT IT READS IS OF BULK AT MOST 1048576: true; the input reads as it did. -/
def fnPickGapUptoRow : OpenClaim := { program := "ytjdlffkbhaieaaadoor", sum := "3394dcae3ff667148b27255abd76dfa7f33c62c698f72a0f86439c2cbf3f154f", func := "loop.example/datenotation/laws.FnPickGap", spec := "fnPickGap", recurses := true, named := ["loop.example/datenotation/impl.monthDays"], apart := false, laid := [("loop.example/datenotation/impl.monthDays", laid_loop_example_datenotation_impl_monthDays)], narrowed := true }
def FnPickGapUptoSaid : Prop := fnPickGapUptoRow.holds Tryd.pinned (OpenSpec.upto fnPickGapSpec)

end Rows
end Go.Proofs.YtjdlffkbhaieaaaDoor
