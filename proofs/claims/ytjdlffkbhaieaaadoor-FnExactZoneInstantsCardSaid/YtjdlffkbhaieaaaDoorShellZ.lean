/- What the statements' frames share: zones, opened. -/
import Derived.Test.YtjdlffkbhaieaaaDoorShell
import Derived.Test.YtjdlffkbhaieaaaDoorPr
import Derived.ChangeSame
namespace Go.Proofs.YtjdlffkbhaieaaaDoor
open Go.ChangeShapes Go.WideShapes Go.ChangeAt Go.RowKit
set_option maxRecDepth 100000 in
theorem zone_of {H : Type} {enc : TypeId × Value → H} {w : World} {r : Reach} {b0 base : Nat} {spare : Nat → Bool} {held : Bool} {v : Value} {d : DataW H} {p : List MemPlace}
    (hval : Value.okWide Tryd.prog w r b0 24 v) (h : DataW.Trod enc Tryd.prog w base spare held 24 v d p) :
    ∃ (o : Int) (A : Option Addr) (len cap : Nat), v = .agg #[.int .i64 o, .slice A len cap] ∧ I64 o ∧ ∃ l : List R2, l.length = len ∧ Prs w.heap.size w A l ∧ (∀ r ∈ l, I64 r.1 ∧ I64 r.2) ∧ len ≤ cap ∧ cap ≤ maxLen := by
  obtain ⟨cs, rfl, hsz⟩ := okWide_struct Tryd.underlying24 hval
  rw [show Tryd.prog.cellsOf 24 = 2 by kernel_rfl] at hsz
  obtain ⟨fuel, hf⟩ := h
  obtain ⟨y0, y1, n, _, _, h0, h1⟩ := trod_struct2 Tryd.underlying24 hf
  obtain ⟨c0, c1, rfl⟩ : ∃ c0 c1, cs = #[c0, c1] := by
    match cs, hsz with
    | ⟨[a, b]⟩, _ => exact ⟨a, b, rfl⟩
  simp only [Value.cells, show Tryd.prog.cellsOf 3 = 1 by kernel_rfl, show Tryd.prog.cellsOf 22 = 1 by kernel_rfl, List.drop_zero, List.drop_succ_cons, List.take_succ_cons, List.take_zero] at h0 h1
  obtain ⟨o, e0, _, wo⟩ := DataW.trod_int Tryd.underlying3 h0
  simp only [List.cons.injEq, and_true] at e0
  subst e0
  have h1' := h1
  obtain ⟨A, len, cap, rfl⟩ : ∃ A len cap, c1 = .slice A len cap := by
    rcases DataW.trod_slice Tryd.underlying22 h1 with ⟨e, _⟩ | ⟨a, len, cap, _, _, _, _, e, _⟩
    · simp only [List.cons.injEq, and_true] at e; exact ⟨_, _, _, e⟩
    · simp only [List.cons.injEq, and_true] at e; exact ⟨_, _, _, e⟩
  exact ⟨o, A, len, cap, rfl, i64_of_wf wo, pairs_of_cells Tryd.underlying22 Tryd.underlying94 (by kernel_rfl) rfl rfl (by kernel_rfl) (by kernel_rfl) Tryd.underlying3 Tryd.underlying3 h1'⟩
end Go.Proofs.YtjdlffkbhaieaaaDoor
