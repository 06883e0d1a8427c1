/- What the statements' frames share: slices of ranges, opened. -/
import Derived.Test.YtakccgajnmkplaaShell
import Derived.Test.YtakccgajnmkplaaPr
namespace Go.Proofs.Ytakccgajnmkplaa
open Go.ChangeShapes Go.WideShapes Go.ChangeAt Go.RowKit
theorem rows_of_Range {H : Type} {enc : TypeId × Value → H} {w : World} {base : Nat} {spare : Nat → Bool} {held : Bool} {A : Option Addr} {len cap : Nat} {d : DataW H} {p : List MemPlace}
    (h : DataW.Trod enc Try.prog w base spare held 22 (.slice A len cap) d p) : ∃ l : List R2, l.length = len ∧ Prs w.heap.size w A l ∧ (∀ r ∈ l, I64 r.1 ∧ I64 r.2) ∧ len ≤ cap ∧ cap ≤ maxLen :=
  pairs_of_trod Try.underlying22 Try.underlying49 (by kernel_rfl) rfl rfl (by kernel_rfl) (by kernel_rfl) Try.underlying3 Try.underlying3 h
end Go.Proofs.Ytakccgajnmkplaa
