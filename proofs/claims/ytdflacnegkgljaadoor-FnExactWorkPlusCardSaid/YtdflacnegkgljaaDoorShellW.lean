/- What the statements' frames share: slices of dates, opened. -/
import Derived.Test.YtdflacnegkgljaaDoorShellI
import Derived.Test.YtdflacnegkgljaaDoorPd
import Derived.Deep.Slices
namespace Go.Proofs.YtdflacnegkgljaaDoor
open Go.ChangeShapes Go.WideShapes Go.ChangeAt Go.RowKit Go.Deep
set_option maxRecDepth 100000 in
theorem rows_of_Date {H : Type} {enc : TypeId × Value → H} {w : World} {base : Nat} {spare : Nat → Bool} {held : Bool} {A : Option Addr} {len cap : Nat} {d : DataW H} {p : List MemPlace}
    (h : DataW.Trod enc Tryd.prog w base spare held 37 (.slice A len cap) d p) : ∃ l : List D3, l.length = len ∧ Drs w.heap.size w A l ∧ True ∧ len ≤ cap ∧ cap ≤ maxLen := by
  obtain ⟨fuel, hf⟩ := h
  have hf' : DataW.trod enc Tryd.prog w base spare held fuel 37 [.slice A len cap] = some (d, p) := by simpa [Value.cells] using hf
  have hce : Tryd.prog.cellsOf 36 = 3 := by kernel_rfl
  rcases open_slice Tryd.underlying37 hf' with ⟨hcs, _⟩ | ⟨a, l, c, m, n, D, Pl, hcs, hb, hl, hm, hmm, _, hx⟩
  · simp at hcs
    obtain ⟨rfl, rfl, rfl⟩ := hcs
    exact ⟨[], rfl, Drs.nil, trivial, Nat.le_refl _, by simp [maxLen]⟩
  · simp at hcs
    obtain ⟨rfl, rfl, rfl⟩ := hcs
    have hlm : len ≤ m := by rw [hmm]; split <;> omega
    have each : ∀ i, i < len → ∃ q : D3, w.cell? (a.add (i * 3)) = some (.int .i64 q.1) ∧ w.cell? (a.add (i * 3 + 1)) = some (.int .i64 q.2.1) ∧ w.cell? (a.add (i * 3 + 2)) = some (.int .i64 q.2.2) := by
      intro i hi
      obtain ⟨cs', h1, h2⟩ := hx i (by omega)
      rw [hce] at h1
      obtain ⟨_, hlen, hcell⟩ := World.cells?_some h1
      have hall := allI_Date.all h2
      match cs', hlen with
      | [v0, v1, v2], _ =>
        obtain ⟨z0, rfl, _⟩ := hall v0 (by simp)
        obtain ⟨z1, rfl, _⟩ := hall v1 (by simp)
        obtain ⟨z2, rfl, _⟩ := hall v2 (by simp)
        have e0 := hcell 0 (by omega)
        have e1 := hcell 1 (by omega)
        have e2 := hcell 2 (by omega)
        rw [add_add] at e0 e1 e2
        exact ⟨(z0, z1, z2), by simpa using e0, by simpa using e1, by simpa using e2⟩
    obtain ⟨q, hq⟩ := choose_lt each
    refine ⟨(List.range len).map q, by simp, fun h0 => ?_, trivial, hl, hm⟩
    simp at h0
    obtain ⟨b, off, spot⟩ := a
    have h1 := (hq 0 (by omega)).1
    have hspot : spot = none := by simpa [Addr.add] using World.cell?_spot h1
    subst hspot
    refine ⟨b, off, rfl, World.block_lt_of_cell? w _ h1, fun i hi => ?_⟩
    have hi' : i < len := by simpa using hi
    obtain ⟨k0, k1, k2⟩ := hq i hi'
    rw [add_plain] at k0 k1 k2
    rw [show ((List.range len).map q).getD i (0, 0, 0) = q i by simp [List.getD, hi']]
    exact ⟨k0, k1, k2⟩
end Go.Proofs.YtdflacnegkgljaaDoor
