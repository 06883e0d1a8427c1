/-
  No cell of these rows narrows 'for every input' (looked for: loops, veiled, ifaces, maps, wideKeys, modest, calm, conditions, laid).
  DERIVED. THE GIVEN ROWS OF THIS SEAT. 15 by the template 'for every input the law returns true; each argument reads behind the call as it read before'; 0 by the template 'total and deterministic' (their statements: YtakccgajnmkplaaTotals.lean).
  GIVEN WITH THE SEED: the statements are not yours to turn. If you find one false, say at which input.
  Laid BY PROGRAM, IN A SANDBOX (cutbox-rows.mjs): the forced cells as the released guide's own fill.sh prints them over the translation 4a8feb9e116d0959… (all of the seat's roots in one cut). By AI agents, Wed Nov 11 2026. No macro, syntax, notation, axiom, sorry.
-/
import Derived.Test.YtakccgajnmkplaaChecked
import GoSem.Claim
import GoSem.ClaimJoined
import GoSem.ClaimMapViews
import Derived.JoinedTies
import Derived.KernelRfl
namespace Go.Proofs.Ytakccgajnmkplaa
/- THE CELL 'sum', in the pinned program and in every row, IS THE sha256 OF THE DUMP (.gsa) THAT YtakccgajnmkplaaProg.lean LOADS. Nothing in Lean hashes anything: it is a label: what it is worth is what the hold of that sum in a sandbox is worth. -/
noncomputable def Try.pinned : Pinned := { name := "ytakccgajnmkplaa", sum := "4a8feb9e116d0959781f301d335ea14b6884ce7fa04fe0ec070b524a92c74507", checked := Try.checked }
namespace Rows
def none {H : Type} : Left H := { results := [], args := [] }

/-- 'laws.FnExactRangesValid': WHATEVER THE INPUT: true; the input reads as it did. -/
def fnExactRangesValidSpec : ChangeSpec := { name := "fnExactRangesValid", fn := fun _ => fun
  | [d] => { results := [.lit (.bool true)], args := [d] }
  | _ => none }
def fnExactRangesValidRow : OpenClaim := { program := "ytakccgajnmkplaa", sum := "4a8feb9e116d0959781f301d335ea14b6884ce7fa04fe0ec070b524a92c74507", func := "loop.example/datenotation/laws.FnExactRangesValid", spec := "fnExactRangesValid", apart := false }
def FnExactRangesValidSaid : Prop := fnExactRangesValidRow.holds Try.pinned (OpenSpec.ofChange fnExactRangesValidSpec)

/-- ITS FALSE NEIGHBOUR: 'it returns false'. Refute it at one input. -/
def fnExactRangesValidWrong : ChangeSpec := { name := "fnExactRangesValid", fn := fun _ => fun
  | [d] => { results := [.lit (.bool false)], args := [d] }
  | _ => none }
def FnExactRangesValidWrongFalsely : Prop := fnExactRangesValidRow.holds Try.pinned (OpenSpec.ofChange fnExactRangesValidWrong)

/-- 'laws.FnExactRangesTotal': WHATEVER THE INPUT: true; the input reads as it did. -/
def fnExactRangesTotalSpec : ChangeSpec := { name := "fnExactRangesTotal", fn := fun _ => fun
  | [d] => { results := [.lit (.bool true)], args := [d] }
  | _ => none }
def fnExactRangesTotalRow : OpenClaim := { program := "ytakccgajnmkplaa", sum := "4a8feb9e116d0959781f301d335ea14b6884ce7fa04fe0ec070b524a92c74507", func := "loop.example/datenotation/laws.FnExactRangesTotal", spec := "fnExactRangesTotal", apart := false }
def FnExactRangesTotalSaid : Prop := fnExactRangesTotalRow.holds Try.pinned (OpenSpec.ofChange fnExactRangesTotalSpec)

/-- ITS FALSE NEIGHBOUR: 'it returns false'. Refute it at one input. -/
def fnExactRangesTotalWrong : ChangeSpec := { name := "fnExactRangesTotal", fn := fun _ => fun
  | [d] => { results := [.lit (.bool false)], args := [d] }
  | _ => none }
def FnExactRangesTotalWrongFalsely : Prop := fnExactRangesTotalRow.holds Try.pinned (OpenSpec.ofChange fnExactRangesTotalWrong)

/-- 'laws.FnExactRangesHas': WHATEVER THE INPUT: true; the input reads as it did. -/
def fnExactRangesHasSpec : ChangeSpec := { name := "fnExactRangesHas", fn := fun _ => fun
  | [d1, d2] => { results := [.lit (.bool true)], args := [d1, d2] }
  | _ => none }
def fnExactRangesHasRow : OpenClaim := { program := "ytakccgajnmkplaa", sum := "4a8feb9e116d0959781f301d335ea14b6884ce7fa04fe0ec070b524a92c74507", func := "loop.example/datenotation/laws.FnExactRangesHas", spec := "fnExactRangesHas", unfollowed := true, recurses := true, apart := false }
def FnExactRangesHasSaid : Prop := fnExactRangesHasRow.holds Try.pinned (OpenSpec.ofChange fnExactRangesHasSpec)

/-- ITS FALSE NEIGHBOUR: 'it returns false'. Refute it at one input. -/
def fnExactRangesHasWrong : ChangeSpec := { name := "fnExactRangesHas", fn := fun _ => fun
  | [d1, d2] => { results := [.lit (.bool false)], args := [d1, d2] }
  | _ => none }
def FnExactRangesHasWrongFalsely : Prop := fnExactRangesHasRow.holds Try.pinned (OpenSpec.ofChange fnExactRangesHasWrong)

/-- 'laws.FnRangesPart': WHATEVER THE INPUT: true; the input reads as it did. -/
def fnRangesPartSpec : ChangeSpec := { name := "fnRangesPart", fn := fun _ => fun
  | [d1, d2] => { results := [.lit (.bool true)], args := [d1, d2] }
  | _ => none }
def fnRangesPartRow : OpenClaim := { program := "ytakccgajnmkplaa", sum := "4a8feb9e116d0959781f301d335ea14b6884ce7fa04fe0ec070b524a92c74507", func := "loop.example/datenotation/laws.FnRangesPart", spec := "fnRangesPart", apart := false }
def FnRangesPartSaid : Prop := fnRangesPartRow.holds Try.pinned (OpenSpec.ofChange fnRangesPartSpec)

/-- ITS FALSE NEIGHBOUR: 'it returns false'. Refute it at one input. -/
def fnRangesPartWrong : ChangeSpec := { name := "fnRangesPart", fn := fun _ => fun
  | [d1, d2] => { results := [.lit (.bool false)], args := [d1, d2] }
  | _ => none }
def FnRangesPartWrongFalsely : Prop := fnRangesPartRow.holds Try.pinned (OpenSpec.ofChange fnRangesPartWrong)

/-- 'laws.FnTotal': WHATEVER THE INPUT: true; the input reads as it did. -/
def fnTotalSpec : ChangeSpec := { name := "fnTotal", fn := fun _ => fun
  | [d] => { results := [.lit (.bool true)], args := [d] }
  | _ => none }
def fnTotalRow : OpenClaim := { program := "ytakccgajnmkplaa", sum := "4a8feb9e116d0959781f301d335ea14b6884ce7fa04fe0ec070b524a92c74507", func := "loop.example/datenotation/laws.FnTotal", spec := "fnTotal", apart := false }
def FnTotalSaid : Prop := fnTotalRow.holds Try.pinned (OpenSpec.ofChange fnTotalSpec)

/-- ITS FALSE NEIGHBOUR: 'it returns false'. Refute it at one input. -/
def fnTotalWrong : ChangeSpec := { name := "fnTotal", fn := fun _ => fun
  | [d] => { results := [.lit (.bool false)], args := [d] }
  | _ => none }
def FnTotalWrongFalsely : Prop := fnTotalRow.holds Try.pinned (OpenSpec.ofChange fnTotalWrong)

/-- 'laws.FnHas': WHATEVER THE INPUT: true; the input reads as it did. -/
def fnHasSpec : ChangeSpec := { name := "fnHas", fn := fun _ => fun
  | [d] => { results := [.lit (.bool true)], args := [d] }
  | _ => none }
def fnHasRow : OpenClaim := { program := "ytakccgajnmkplaa", sum := "4a8feb9e116d0959781f301d335ea14b6884ce7fa04fe0ec070b524a92c74507", func := "loop.example/datenotation/laws.FnHas", spec := "fnHas", unfollowed := true, recurses := true, apart := false }
def FnHasSaid : Prop := fnHasRow.holds Try.pinned (OpenSpec.ofChange fnHasSpec)

/-- ITS FALSE NEIGHBOUR: 'it returns false'. Refute it at one input. -/
def fnHasWrong : ChangeSpec := { name := "fnHas", fn := fun _ => fun
  | [d] => { results := [.lit (.bool false)], args := [d] }
  | _ => none }
def FnHasWrongFalsely : Prop := fnHasRow.holds Try.pinned (OpenSpec.ofChange fnHasWrong)

/-- 'laws.FnExactRangesMeet': WHATEVER THE INPUT: true; the input reads as it did. -/
def fnExactRangesMeetSpec : ChangeSpec := { name := "fnExactRangesMeet", fn := fun _ => fun
  | [d1, d2] => { results := [.lit (.bool true)], args := [d1, d2] }
  | _ => none }
def fnExactRangesMeetRow : OpenClaim := { program := "ytakccgajnmkplaa", sum := "4a8feb9e116d0959781f301d335ea14b6884ce7fa04fe0ec070b524a92c74507", func := "loop.example/datenotation/laws.FnExactRangesMeet", spec := "fnExactRangesMeet", apart := false }
def FnExactRangesMeetSaid : Prop := fnExactRangesMeetRow.holds Try.pinned (OpenSpec.ofChange fnExactRangesMeetSpec)

/-- ITS FALSE NEIGHBOUR: 'it returns false'. Refute it at one input. -/
def fnExactRangesMeetWrong : ChangeSpec := { name := "fnExactRangesMeet", fn := fun _ => fun
  | [d1, d2] => { results := [.lit (.bool false)], args := [d1, d2] }
  | _ => none }
def FnExactRangesMeetWrongFalsely : Prop := fnExactRangesMeetRow.holds Try.pinned (OpenSpec.ofChange fnExactRangesMeetWrong)

/-- 'laws.FnMeetBoth': WHATEVER THE INPUT: true; the input reads as it did. -/
def fnMeetBothSpec : ChangeSpec := { name := "fnMeetBoth", fn := fun _ => fun
  | [d] => { results := [.lit (.bool true)], args := [d] }
  | _ => none }
def fnMeetBothRow : OpenClaim := { program := "ytakccgajnmkplaa", sum := "4a8feb9e116d0959781f301d335ea14b6884ce7fa04fe0ec070b524a92c74507", func := "loop.example/datenotation/laws.FnMeetBoth", spec := "fnMeetBoth", apart := false }
def FnMeetBothSaid : Prop := fnMeetBothRow.holds Try.pinned (OpenSpec.ofChange fnMeetBothSpec)

/-- ITS FALSE NEIGHBOUR: 'it returns false'. Refute it at one input. -/
def fnMeetBothWrong : ChangeSpec := { name := "fnMeetBoth", fn := fun _ => fun
  | [d] => { results := [.lit (.bool false)], args := [d] }
  | _ => none }
def FnMeetBothWrongFalsely : Prop := fnMeetBothRow.holds Try.pinned (OpenSpec.ofChange fnMeetBothWrong)

/-- 'laws.FnMeet': WHATEVER THE INPUT: true; the input reads as it did. -/
def fnMeetSpec : ChangeSpec := { name := "fnMeet", fn := fun _ => fun
  | [d] => { results := [.lit (.bool true)], args := [d] }
  | _ => none }
def fnMeetRow : OpenClaim := { program := "ytakccgajnmkplaa", sum := "4a8feb9e116d0959781f301d335ea14b6884ce7fa04fe0ec070b524a92c74507", func := "loop.example/datenotation/laws.FnMeet", spec := "fnMeet", unfollowed := true, recurses := true, apart := false }
def FnMeetSaid : Prop := fnMeetRow.holds Try.pinned (OpenSpec.ofChange fnMeetSpec)

/-- ITS FALSE NEIGHBOUR: 'it returns false'. Refute it at one input. -/
def fnMeetWrong : ChangeSpec := { name := "fnMeet", fn := fun _ => fun
  | [d] => { results := [.lit (.bool false)], args := [d] }
  | _ => none }
def FnMeetWrongFalsely : Prop := fnMeetRow.holds Try.pinned (OpenSpec.ofChange fnMeetWrong)

/-- 'laws.FnMeetAll': WHATEVER THE INPUT: true; the input reads as it did. -/
def fnMeetAllSpec : ChangeSpec := { name := "fnMeetAll", fn := fun _ => fun
  | [d] => { results := [.lit (.bool true)], args := [d] }
  | _ => none }
def fnMeetAllRow : OpenClaim := { program := "ytakccgajnmkplaa", sum := "4a8feb9e116d0959781f301d335ea14b6884ce7fa04fe0ec070b524a92c74507", func := "loop.example/datenotation/laws.FnMeetAll", spec := "fnMeetAll", unfollowed := true, recurses := true, apart := false }
def FnMeetAllSaid : Prop := fnMeetAllRow.holds Try.pinned (OpenSpec.ofChange fnMeetAllSpec)

/-- ITS FALSE NEIGHBOUR: 'it returns false'. Refute it at one input. -/
def fnMeetAllWrong : ChangeSpec := { name := "fnMeetAll", fn := fun _ => fun
  | [d] => { results := [.lit (.bool false)], args := [d] }
  | _ => none }
def FnMeetAllWrongFalsely : Prop := fnMeetAllRow.holds Try.pinned (OpenSpec.ofChange fnMeetAllWrong)

/-- 'laws.FnJoinOrder': WHATEVER THE INPUT: true; the input reads as it did. -/
def fnJoinOrderSpec : ChangeSpec := { name := "fnJoinOrder", fn := fun _ => fun
  | [d] => { results := [.lit (.bool true)], args := [d] }
  | _ => none }
def fnJoinOrderRow : OpenClaim := { program := "ytakccgajnmkplaa", sum := "4a8feb9e116d0959781f301d335ea14b6884ce7fa04fe0ec070b524a92c74507", func := "loop.example/datenotation/laws.FnJoinOrder", spec := "fnJoinOrder", unfollowed := true, recurses := true, apart := false }
def FnJoinOrderSaid : Prop := fnJoinOrderRow.holds Try.pinned (OpenSpec.ofChange fnJoinOrderSpec)

/-- ITS FALSE NEIGHBOUR: 'it returns false'. Refute it at one input. -/
def fnJoinOrderWrong : ChangeSpec := { name := "fnJoinOrder", fn := fun _ => fun
  | [d] => { results := [.lit (.bool false)], args := [d] }
  | _ => none }
def FnJoinOrderWrongFalsely : Prop := fnJoinOrderRow.holds Try.pinned (OpenSpec.ofChange fnJoinOrderWrong)

/-- 'laws.FnJoin': WHATEVER THE INPUT: true; the input reads as it did. -/
def fnJoinSpec : ChangeSpec := { name := "fnJoin", fn := fun _ => fun
  | [d] => { results := [.lit (.bool true)], args := [d] }
  | _ => none }
def fnJoinRow : OpenClaim := { program := "ytakccgajnmkplaa", sum := "4a8feb9e116d0959781f301d335ea14b6884ce7fa04fe0ec070b524a92c74507", func := "loop.example/datenotation/laws.FnJoin", spec := "fnJoin", unfollowed := true, recurses := true, apart := false }
def FnJoinSaid : Prop := fnJoinRow.holds Try.pinned (OpenSpec.ofChange fnJoinSpec)

/-- ITS FALSE NEIGHBOUR: 'it returns false'. Refute it at one input. -/
def fnJoinWrong : ChangeSpec := { name := "fnJoin", fn := fun _ => fun
  | [d] => { results := [.lit (.bool false)], args := [d] }
  | _ => none }
def FnJoinWrongFalsely : Prop := fnJoinRow.holds Try.pinned (OpenSpec.ofChange fnJoinWrong)

/-- 'laws.FnExactRangesJoin': WHATEVER THE INPUT: true; the input reads as it did. -/
def fnExactRangesJoinSpec : ChangeSpec := { name := "fnExactRangesJoin", fn := fun _ => fun
  | [d] => { results := [.lit (.bool true)], args := [d] }
  | _ => none }
def fnExactRangesJoinRow : OpenClaim := { program := "ytakccgajnmkplaa", sum := "4a8feb9e116d0959781f301d335ea14b6884ce7fa04fe0ec070b524a92c74507", func := "loop.example/datenotation/laws.FnExactRangesJoin", spec := "fnExactRangesJoin", unfollowed := true, recurses := true, apart := false }
def FnExactRangesJoinSaid : Prop := fnExactRangesJoinRow.holds Try.pinned (OpenSpec.ofChange fnExactRangesJoinSpec)

/-- ITS FALSE NEIGHBOUR: 'it returns false'. Refute it at one input. -/
def fnExactRangesJoinWrong : ChangeSpec := { name := "fnExactRangesJoin", fn := fun _ => fun
  | [d] => { results := [.lit (.bool false)], args := [d] }
  | _ => none }
def FnExactRangesJoinWrongFalsely : Prop := fnExactRangesJoinRow.holds Try.pinned (OpenSpec.ofChange fnExactRangesJoinWrong)

/-- 'laws.FnJoinHas': WHATEVER THE INPUT: true; the input reads as it did. -/
def fnJoinHasSpec : ChangeSpec := { name := "fnJoinHas", fn := fun _ => fun
  | [d] => { results := [.lit (.bool true)], args := [d] }
  | _ => none }
def fnJoinHasRow : OpenClaim := { program := "ytakccgajnmkplaa", sum := "4a8feb9e116d0959781f301d335ea14b6884ce7fa04fe0ec070b524a92c74507", func := "loop.example/datenotation/laws.FnJoinHas", spec := "fnJoinHas", unfollowed := true, recurses := true, apart := false }
def FnJoinHasSaid : Prop := fnJoinHasRow.holds Try.pinned (OpenSpec.ofChange fnJoinHasSpec)

/-- ITS FALSE NEIGHBOUR: 'it returns false'. Refute it at one input. -/
def fnJoinHasWrong : ChangeSpec := { name := "fnJoinHas", fn := fun _ => fun
  | [d] => { results := [.lit (.bool false)], args := [d] }
  | _ => none }
def FnJoinHasWrongFalsely : Prop := fnJoinHasRow.holds Try.pinned (OpenSpec.ofChange fnJoinHasWrong)

/-- 'laws.FnJoinTotal': WHATEVER THE INPUT: true; the input reads as it did. -/
def fnJoinTotalSpec : ChangeSpec := { name := "fnJoinTotal", fn := fun _ => fun
  | [d] => { results := [.lit (.bool true)], args := [d] }
  | _ => none }
def fnJoinTotalRow : OpenClaim := { program := "ytakccgajnmkplaa", sum := "4a8feb9e116d0959781f301d335ea14b6884ce7fa04fe0ec070b524a92c74507", func := "loop.example/datenotation/laws.FnJoinTotal", spec := "fnJoinTotal", unfollowed := true, recurses := true, apart := false }
def FnJoinTotalSaid : Prop := fnJoinTotalRow.holds Try.pinned (OpenSpec.ofChange fnJoinTotalSpec)

/-- ITS FALSE NEIGHBOUR: 'it returns false'. Refute it at one input. -/
def fnJoinTotalWrong : ChangeSpec := { name := "fnJoinTotal", fn := fun _ => fun
  | [d] => { results := [.lit (.bool false)], args := [d] }
  | _ => none }
def FnJoinTotalWrongFalsely : Prop := fnJoinTotalRow.holds Try.pinned (OpenSpec.ofChange fnJoinTotalWrong)

/- THE SECOND FORM. 'bulk': how many values and letters a reading holds, each counted each time it is reached (what is shared counts as often as it is met; a slice's spare places count too). A statement '..UptoSaid' is the law's where the arguments, and the package variables that the reading takes, are together of bulk at most 1048576: NARROWER than '..Said'. Prove '..Said' where nothing that the law and all that it calls make is longer than what came in: it says more and counts as full. Else prove '..UptoSaid'. A law counts once. -/
mutual
def uptoBulk {H : Type} : DataW H → Nat
  | .lit (.string bytes) => bytes.length + 1
  | .lit _ => 1
  | .nil => 1
  | .ptr d => uptoBulk d + 1
  | .slice elems spare => uptoBulkAll elems + uptoBulkAll spare + 1
  | .agg parts => uptoBulkAll parts + 1
  | .iface _ d => uptoBulk d + 1
  | .map entries => uptoBulkEntries entries + 1
  | .held _ => 1
def uptoBulkAll {H : Type} : List (DataW H) → Nat
  | [] => 0
  | d :: r => uptoBulk d + uptoBulkAll r
def uptoBulkEntries {H : Type} : List (Lit × DataW H) → Nat
  | [] => 0
  | x :: r => uptoBulkEntry x + uptoBulkEntries r
def uptoBulkEntry {H : Type} : Lit × DataW H → Nat
  | (.string bytes, d) => bytes.length + uptoBulk d + 1
  | (_, d) => uptoBulk d + 1
 end
def uptoSmall : (H : Type) → List (DataW H) → Bool := fun _ ds => decide (uptoBulkAll ds ≤ 1048576)
def OpenSpec.upto (s : _root_.Go.ChangeSpec) : _root_.Go.OpenSpec := { _root_.Go.OpenSpec.ofChange s with cond := some uptoSmall }

/-- 'laws.FnExactRangesValid', WHERE WHAT IT READS IS OF BULK AT MOST 1048576: true; the input reads as it did. -/
def fnExactRangesValidUptoRow : OpenClaim := { program := "ytakccgajnmkplaa", sum := "4a8feb9e116d0959781f301d335ea14b6884ce7fa04fe0ec070b524a92c74507", func := "loop.example/datenotation/laws.FnExactRangesValid", spec := "fnExactRangesValid", apart := false, narrowed := true }
def FnExactRangesValidUptoSaid : Prop := fnExactRangesValidUptoRow.holds Try.pinned (OpenSpec.upto fnExactRangesValidSpec)

/-- 'laws.FnExactRangesTotal', WHERE WHAT IT READS IS OF BULK AT MOST 1048576: true; the input reads as it did. -/
def fnExactRangesTotalUptoRow : OpenClaim := { program := "ytakccgajnmkplaa", sum := "4a8feb9e116d0959781f301d335ea14b6884ce7fa04fe0ec070b524a92c74507", func := "loop.example/datenotation/laws.FnExactRangesTotal", spec := "fnExactRangesTotal", apart := false, narrowed := true }
def FnExactRangesTotalUptoSaid : Prop := fnExactRangesTotalUptoRow.holds Try.pinned (OpenSpec.upto fnExactRangesTotalSpec)

/-- 'laws.FnExactRangesHas', WHERE WHAT IT READS IS OF BULK AT MOST 1048576: true; the input reads as it did. -/
def fnExactRangesHasUptoRow : OpenClaim := { program := "ytakccgajnmkplaa", sum := "4a8feb9e116d0959781f301d335ea14b6884ce7fa04fe0ec070b524a92c74507", func := "loop.example/datenotation/laws.FnExactRangesHas", spec := "fnExactRangesHas", unfollowed := true, recurses := true, apart := false, narrowed := true }
def FnExactRangesHasUptoSaid : Prop := fnExactRangesHasUptoRow.holds Try.pinned (OpenSpec.upto fnExactRangesHasSpec)

/-- 'laws.FnRangesPart', WHERE WHAT IT READS IS OF BULK AT MOST 1048576: true; the input reads as it did. -/
def fnRangesPartUptoRow : OpenClaim := { program := "ytakccgajnmkplaa", sum := "4a8feb9e116d0959781f301d335ea14b6884ce7fa04fe0ec070b524a92c74507", func := "loop.example/datenotation/laws.FnRangesPart", spec := "fnRangesPart", apart := false, narrowed := true }
def FnRangesPartUptoSaid : Prop := fnRangesPartUptoRow.holds Try.pinned (OpenSpec.upto fnRangesPartSpec)

/-- 'laws.FnTotal', WHERE WHAT IT READS IS OF BULK AT MOST 1048576: true; the input reads as it did. -/
def fnTotalUptoRow : OpenClaim := { program := "ytakccgajnmkplaa", sum := "4a8feb9e116d0959781f301d335ea14b6884ce7fa04fe0ec070b524a92c74507", func := "loop.example/datenotation/laws.FnTotal", spec := "fnTotal", apart := false, narrowed := true }
def FnTotalUptoSaid : Prop := fnTotalUptoRow.holds Try.pinned (OpenSpec.upto fnTotalSpec)

/-- 'laws.FnHas', WHERE WHAT IT READS IS OF BULK AT MOST 1048576: true; the input reads as it did. -/
def fnHasUptoRow : OpenClaim := { program := "ytakccgajnmkplaa", sum := "4a8feb9e116d0959781f301d335ea14b6884ce7fa04fe0ec070b524a92c74507", func := "loop.example/datenotation/laws.FnHas", spec := "fnHas", unfollowed := true, recurses := true, apart := false, narrowed := true }
def FnHasUptoSaid : Prop := fnHasUptoRow.holds Try.pinned (OpenSpec.upto fnHasSpec)

/-- 'laws.FnExactRangesMeet', WHERE WHAT IT READS IS OF BULK AT MOST 1048576: true; the input reads as it did. -/
def fnExactRangesMeetUptoRow : OpenClaim := { program := "ytakccgajnmkplaa", sum := "4a8feb9e116d0959781f301d335ea14b6884ce7fa04fe0ec070b524a92c74507", func := "loop.example/datenotation/laws.FnExactRangesMeet", spec := "fnExactRangesMeet", apart := false, narrowed := true }
def FnExactRangesMeetUptoSaid : Prop := fnExactRangesMeetUptoRow.holds Try.pinned (OpenSpec.upto fnExactRangesMeetSpec)

/-- 'laws.FnMeetBoth', WHERE WHAT IT READS IS OF BULK AT MOST 1048576: true; the input reads as it did. -/
def fnMeetBothUptoRow : OpenClaim := { program := "ytakccgajnmkplaa", sum := "4a8feb9e116d0959781f301d335ea14b6884ce7fa04fe0ec070b524a92c74507", func := "loop.example/datenotation/laws.FnMeetBoth", spec := "fnMeetBoth", apart := false, narrowed := true }
def FnMeetBothUptoSaid : Prop := fnMeetBothUptoRow.holds Try.pinned (OpenSpec.upto fnMeetBothSpec)

/-- 'laws.FnMeet', WHERE WHAT IT READS IS OF BULK AT MOST 1048576: true; the input reads as it did. -/
def fnMeetUptoRow : OpenClaim := { program := "ytakccgajnmkplaa", sum := "4a8feb9e116d0959781f301d335ea14b6884ce7fa04fe0ec070b524a92c74507", func := "loop.example/datenotation/laws.FnMeet", spec := "fnMeet", unfollowed := true, recurses := true, apart := false, narrowed := true }
def FnMeetUptoSaid : Prop := fnMeetUptoRow.holds Try.pinned (OpenSpec.upto fnMeetSpec)

/-- 'laws.FnMeetAll', WHERE WHAT IT READS IS OF BULK AT MOST 1048576: true; the input reads as it did. -/
def fnMeetAllUptoRow : OpenClaim := { program := "ytakccgajnmkplaa", sum := "4a8feb9e116d0959781f301d335ea14b6884ce7fa04fe0ec070b524a92c74507", func := "loop.example/datenotation/laws.FnMeetAll", spec := "fnMeetAll", unfollowed := true, recurses := true, apart := false, narrowed := true }
def FnMeetAllUptoSaid : Prop := fnMeetAllUptoRow.holds Try.pinned (OpenSpec.upto fnMeetAllSpec)

/-- 'laws.FnJoinOrder', WHERE WHAT IT READS IS OF BULK AT MOST 1048576: true; the input reads as it did. -/
def fnJoinOrderUptoRow : OpenClaim := { program := "ytakccgajnmkplaa", sum := "4a8feb9e116d0959781f301d335ea14b6884ce7fa04fe0ec070b524a92c74507", func := "loop.example/datenotation/laws.FnJoinOrder", spec := "fnJoinOrder", unfollowed := true, recurses := true, apart := false, narrowed := true }
def FnJoinOrderUptoSaid : Prop := fnJoinOrderUptoRow.holds Try.pinned (OpenSpec.upto fnJoinOrderSpec)

/-- 'laws.FnJoin', WHERE WHAT IT READS IS OF BULK AT MOST 1048576: true; the input reads as it did. -/
def fnJoinUptoRow : OpenClaim := { program := "ytakccgajnmkplaa", sum := "4a8feb9e116d0959781f301d335ea14b6884ce7fa04fe0ec070b524a92c74507", func := "loop.example/datenotation/laws.FnJoin", spec := "fnJoin", unfollowed := true, recurses := true, apart := false, narrowed := true }
def FnJoinUptoSaid : Prop := fnJoinUptoRow.holds Try.pinned (OpenSpec.upto fnJoinSpec)

/-- 'laws.FnExactRangesJoin', WHERE WHAT IT READS IS OF BULK AT MOST 1048576: true; the input reads as it did. -/
def fnExactRangesJoinUptoRow : OpenClaim := { program := "ytakccgajnmkplaa", sum := "4a8feb9e116d0959781f301d335ea14b6884ce7fa04fe0ec070b524a92c74507", func := "loop.example/datenotation/laws.FnExactRangesJoin", spec := "fnExactRangesJoin", unfollowed := true, recurses := true, apart := false, narrowed := true }
def FnExactRangesJoinUptoSaid : Prop := fnExactRangesJoinUptoRow.holds Try.pinned (OpenSpec.upto fnExactRangesJoinSpec)

/-- 'laws.FnJoinHas', WHERE WHAT IT READS IS OF BULK AT MOST 1048576: true; the input reads as it did. -/
def fnJoinHasUptoRow : OpenClaim := { program := "ytakccgajnmkplaa", sum := "4a8feb9e116d0959781f301d335ea14b6884ce7fa04fe0ec070b524a92c74507", func := "loop.example/datenotation/laws.FnJoinHas", spec := "fnJoinHas", unfollowed := true, recurses := true, apart := false, narrowed := true }
def FnJoinHasUptoSaid : Prop := fnJoinHasUptoRow.holds Try.pinned (OpenSpec.upto fnJoinHasSpec)

/-- 'laws.FnJoinTotal', WHERE WHAT IT READS IS OF BULK AT MOST 1048576: true; the input reads as it did. -/
def fnJoinTotalUptoRow : OpenClaim := { program := "ytakccgajnmkplaa", sum := "4a8feb9e116d0959781f301d335ea14b6884ce7fa04fe0ec070b524a92c74507", func := "loop.example/datenotation/laws.FnJoinTotal", spec := "fnJoinTotal", unfollowed := true, recurses := true, apart := false, narrowed := true }
def FnJoinTotalUptoSaid : Prop := fnJoinTotalUptoRow.holds Try.pinned (OpenSpec.upto fnJoinTotalSpec)

end Rows
end Go.Proofs.Ytakccgajnmkplaa
