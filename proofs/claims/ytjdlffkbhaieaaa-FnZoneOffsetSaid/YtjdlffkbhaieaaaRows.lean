/-
  No cell of these rows narrows 'for every input' (looked for: loops, veiled, ifaces, maps, wideKeys, modest, calm, conditions, laid).
  DERIVED. THE GIVEN ROWS OF THIS SEAT. 5 by the template 'for every input the law returns true; each argument reads behind the call as it read before'; 0 by the template 'total and deterministic' (their statements: YtjdlffkbhaieaaaTotals.lean).
  GIVEN WITH THE SEED: the statements are not yours to turn. If you find one false, say at which input.
  Laid BY PROGRAM, IN A SANDBOX (cutbox-rows.mjs): the forced cells as the released guide's own fill.sh prints them over the translation 04a88c863ac0e6f7… (all of the seat's roots in one cut). By AI agents, Wed Nov 11 2026. No macro, syntax, notation, axiom, sorry.
-/
import Derived.Test.YtjdlffkbhaieaaaChecked
import GoSem.Claim
import GoSem.ClaimJoined
import GoSem.ClaimMapViews
import Derived.JoinedTies
import Derived.KernelRfl
namespace Go.Proofs.Ytjdlffkbhaieaaa
/- THE CELL 'sum', in the pinned program and in every row, IS THE sha256 OF THE DUMP (.gsa) THAT YtjdlffkbhaieaaaProg.lean LOADS. Nothing in Lean hashes anything: it is a label: what it is worth is what the hold of that sum in a sandbox is worth. -/
noncomputable def Try.pinned : Pinned := { name := "ytjdlffkbhaieaaa", sum := "04a88c863ac0e6f7aad9d087baac004272e2ebdd8d88454b2fc72849ddbede6c", checked := Try.checked }
namespace Rows
def none {H : Type} : Left H := { results := [], args := [] }

/-- 'laws.FnExactZoneValid': WHATEVER THE INPUT: true; the input reads as it did. -/
def fnExactZoneValidSpec : ChangeSpec := { name := "fnExactZoneValid", fn := fun _ => fun
  | [d] => { results := [.lit (.bool true)], args := [d] }
  | _ => none }
def fnExactZoneValidRow : OpenClaim := { program := "ytjdlffkbhaieaaa", sum := "04a88c863ac0e6f7aad9d087baac004272e2ebdd8d88454b2fc72849ddbede6c", func := "loop.example/datenotation/laws.FnExactZoneValid", spec := "fnExactZoneValid", apart := false }
def FnExactZoneValidSaid : Prop := fnExactZoneValidRow.holds Try.pinned (OpenSpec.ofChange fnExactZoneValidSpec)

/-- ITS FALSE NEIGHBOUR: 'it returns false'. Refute it at one input. -/
def fnExactZoneValidWrong : ChangeSpec := { name := "fnExactZoneValid", fn := fun _ => fun
  | [d] => { results := [.lit (.bool false)], args := [d] }
  | _ => none }
def FnExactZoneValidWrongFalsely : Prop := fnExactZoneValidRow.holds Try.pinned (OpenSpec.ofChange fnExactZoneValidWrong)

/-- 'laws.FnZonePart': WHATEVER THE INPUT: true; the input reads as it did. -/
def fnZonePartSpec : ChangeSpec := { name := "fnZonePart", fn := fun _ => fun
  | [d] => { results := [.lit (.bool true)], args := [d] }
  | _ => none }
def fnZonePartRow : OpenClaim := { program := "ytjdlffkbhaieaaa", sum := "04a88c863ac0e6f7aad9d087baac004272e2ebdd8d88454b2fc72849ddbede6c", func := "loop.example/datenotation/laws.FnZonePart", spec := "fnZonePart", apart := false }
def FnZonePartSaid : Prop := fnZonePartRow.holds Try.pinned (OpenSpec.ofChange fnZonePartSpec)

/-- ITS FALSE NEIGHBOUR: 'it returns false'. Refute it at one input. -/
def fnZonePartWrong : ChangeSpec := { name := "fnZonePart", fn := fun _ => fun
  | [d] => { results := [.lit (.bool false)], args := [d] }
  | _ => none }
def FnZonePartWrongFalsely : Prop := fnZonePartRow.holds Try.pinned (OpenSpec.ofChange fnZonePartWrong)

/-- 'laws.FnZoneSame': WHATEVER THE INPUT: true; the input reads as it did. -/
def fnZoneSameSpec : ChangeSpec := { name := "fnZoneSame", fn := fun _ => fun
  | [d] => { results := [.lit (.bool true)], args := [d] }
  | _ => none }
def fnZoneSameRow : OpenClaim := { program := "ytjdlffkbhaieaaa", sum := "04a88c863ac0e6f7aad9d087baac004272e2ebdd8d88454b2fc72849ddbede6c", func := "loop.example/datenotation/laws.FnZoneSame", spec := "fnZoneSame", apart := false }
def FnZoneSameSaid : Prop := fnZoneSameRow.holds Try.pinned (OpenSpec.ofChange fnZoneSameSpec)

/-- ITS FALSE NEIGHBOUR: 'it returns false'. Refute it at one input. -/
def fnZoneSameWrong : ChangeSpec := { name := "fnZoneSame", fn := fun _ => fun
  | [d] => { results := [.lit (.bool false)], args := [d] }
  | _ => none }
def FnZoneSameWrongFalsely : Prop := fnZoneSameRow.holds Try.pinned (OpenSpec.ofChange fnZoneSameWrong)

/-- 'laws.FnExactZoneOffset': WHATEVER THE INPUT: true; the input reads as it did. -/
def fnExactZoneOffsetSpec : ChangeSpec := { name := "fnExactZoneOffset", fn := fun _ => fun
  | [d1, d2] => { results := [.lit (.bool true)], args := [d1, d2] }
  | _ => none }
def fnExactZoneOffsetRow : OpenClaim := { program := "ytjdlffkbhaieaaa", sum := "04a88c863ac0e6f7aad9d087baac004272e2ebdd8d88454b2fc72849ddbede6c", func := "loop.example/datenotation/laws.FnExactZoneOffset", spec := "fnExactZoneOffset", recurses := true, apart := false }
def FnExactZoneOffsetSaid : Prop := fnExactZoneOffsetRow.holds Try.pinned (OpenSpec.ofChange fnExactZoneOffsetSpec)

/-- ITS FALSE NEIGHBOUR: 'it returns false'. Refute it at one input. -/
def fnExactZoneOffsetWrong : ChangeSpec := { name := "fnExactZoneOffset", fn := fun _ => fun
  | [d1, d2] => { results := [.lit (.bool false)], args := [d1, d2] }
  | _ => none }
def FnExactZoneOffsetWrongFalsely : Prop := fnExactZoneOffsetRow.holds Try.pinned (OpenSpec.ofChange fnExactZoneOffsetWrong)

/-- 'laws.FnZoneOffset': WHATEVER THE INPUT: true; the input reads as it did. -/
def fnZoneOffsetSpec : ChangeSpec := { name := "fnZoneOffset", fn := fun _ => fun
  | [d] => { results := [.lit (.bool true)], args := [d] }
  | _ => none }
def fnZoneOffsetRow : OpenClaim := { program := "ytjdlffkbhaieaaa", sum := "04a88c863ac0e6f7aad9d087baac004272e2ebdd8d88454b2fc72849ddbede6c", func := "loop.example/datenotation/laws.FnZoneOffset", spec := "fnZoneOffset", recurses := true, apart := false }
def FnZoneOffsetSaid : Prop := fnZoneOffsetRow.holds Try.pinned (OpenSpec.ofChange fnZoneOffsetSpec)

/-- ITS FALSE NEIGHBOUR: 'it returns false'. Refute it at one input. -/
def fnZoneOffsetWrong : ChangeSpec := { name := "fnZoneOffset", fn := fun _ => fun
  | [d] => { results := [.lit (.bool false)], args := [d] }
  | _ => none }
def FnZoneOffsetWrongFalsely : Prop := fnZoneOffsetRow.holds Try.pinned (OpenSpec.ofChange fnZoneOffsetWrong)

/- THE SECOND FORM. 'bulk': how many values and letters a reading holds, each counted each time it is reached (what is shared counts as often as it is met; a slice's spare places count too). A statement '..UptoSaid' is the law's where the arguments, and the package variables that the reading takes, are together of bulk at most 1048576: NARROWER than '..Said'. Prove '..Said' where nothing that the law and all that it calls make is longer than what came in: it says more and counts as full. Else prove '..UptoSaid'. A law counts once. -/
mutual
def uptoBulk {H : Type} : DataW H → Nat
  | .lit (.string bytes) => bytes.length + 1
  | .lit _ => 1
  | .nil => 1
  | .ptr d => uptoBulk d + 1
  | .slice elems spare => uptoBulkAll elems + uptoBulkAll spare + 1
  | .agg parts => uptoBulkAll parts + 1
  | .iface _ d => uptoBulk d + 1
  | .map entries => uptoBulkEntries entries + 1
  | .held _ => 1
def uptoBulkAll {H : Type} : List (DataW H) → Nat
  | [] => 0
  | d :: r => uptoBulk d + uptoBulkAll r
def uptoBulkEntries {H : Type} : List (Lit × DataW H) → Nat
  | [] => 0
  | x :: r => uptoBulkEntry x + uptoBulkEntries r
def uptoBulkEntry {H : Type} : Lit × DataW H → Nat
  | (.string bytes, d) => bytes.length + uptoBulk d + 1
  | (_, d) => uptoBulk d + 1
 end
def uptoSmall : (H : Type) → List (DataW H) → Bool := fun _ ds => decide (uptoBulkAll ds ≤ 1048576)
def OpenSpec.upto (s : _root_.Go.ChangeSpec) : _root_.Go.OpenSpec := { _root_.Go.OpenSpec.ofChange s with cond := some uptoSmall }

/-- 'laws.FnExactZoneValid', WHERE WHAT IT READS IS OF BULK AT MOST 1048576: true; the input reads as it did. -/
def fnExactZoneValidUptoRow : OpenClaim := { program := "ytjdlffkbhaieaaa", sum := "04a88c863ac0e6f7aad9d087baac004272e2ebdd8d88454b2fc72849ddbede6c", func := "loop.example/datenotation/laws.FnExactZoneValid", spec := "fnExactZoneValid", apart := false, narrowed := true }
def FnExactZoneValidUptoSaid : Prop := fnExactZoneValidUptoRow.holds Try.pinned (OpenSpec.upto fnExactZoneValidSpec)

/-- 'laws.FnZonePart', WHERE WHAT IT READS IS OF BULK AT MOST 1048576: true; the input reads as it did. -/
def fnZonePartUptoRow : OpenClaim := { program := "ytjdlffkbhaieaaa", sum := "04a88c863ac0e6f7aad9d087baac004272e2ebdd8d88454b2fc72849ddbede6c", func := "loop.example/datenotation/laws.FnZonePart", spec := "fnZonePart", apart := false, narrowed := true }
def FnZonePartUptoSaid : Prop := fnZonePartUptoRow.holds Try.pinned (OpenSpec.upto fnZonePartSpec)

/-- 'laws.FnZoneSame', WHERE WHAT IT READS IS OF BULK AT MOST 1048576: true; the input reads as it did. -/
def fnZoneSameUptoRow : OpenClaim := { program := "ytjdlffkbhaieaaa", sum := "04a88c863ac0e6f7aad9d087baac004272e2ebdd8d88454b2fc72849ddbede6c", func := "loop.example/datenotation/laws.FnZoneSame", spec := "fnZoneSame", apart := false, narrowed := true }
def FnZoneSameUptoSaid : Prop := fnZoneSameUptoRow.holds Try.pinned (OpenSpec.upto fnZoneSameSpec)

/-- 'laws.FnExactZoneOffset', WHERE WHAT IT READS IS OF BULK AT MOST 1048576: true; the input reads as it did. -/
def fnExactZoneOffsetUptoRow : OpenClaim := { program := "ytjdlffkbhaieaaa", sum := "04a88c863ac0e6f7aad9d087baac004272e2ebdd8d88454b2fc72849ddbede6c", func := "loop.example/datenotation/laws.FnExactZoneOffset", spec := "fnExactZoneOffset", recurses := true, apart := false, narrowed := true }
def FnExactZoneOffsetUptoSaid : Prop := fnExactZoneOffsetUptoRow.holds Try.pinned (OpenSpec.upto fnExactZoneOffsetSpec)

/-- 'laws.FnZoneOffset', WHERE WHAT IT READS IS OF BULK AT MOST 1048576: true; the input reads as it did. -/
def fnZoneOffsetUptoRow : OpenClaim := { program := "ytjdlffkbhaieaaa", sum := "04a88c863ac0e6f7aad9d087baac004272e2ebdd8d88454b2fc72849ddbede6c", func := "loop.example/datenotation/laws.FnZoneOffset", spec := "fnZoneOffset", recurses := true, apart := false, narrowed := true }
def FnZoneOffsetUptoSaid : Prop := fnZoneOffsetUptoRow.holds Try.pinned (OpenSpec.upto fnZoneOffsetSpec)

end Rows
end Go.Proofs.Ytjdlffkbhaieaaa
