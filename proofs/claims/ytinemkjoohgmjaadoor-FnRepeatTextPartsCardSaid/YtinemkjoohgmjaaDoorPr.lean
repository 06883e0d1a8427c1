/- Slices of pairs: ranges, turns. -/
import Derived.Test.YtinemkjoohgmjaaDoorRgPl
import Derived.Deep.AppendLies
import Derived.Deep.SlicePairs
namespace Go.Proofs.YtinemkjoohgmjaaDoor
open Go.RowKit Go.ChangeShapes Go.WideShapes Go.ChangeAt

/-- The cells of a list of pairs. -/
def flatP (l : List R2) : List Value := l.flatMap fun r => [Value.int .i64 r.1, Value.int .i64 r.2]
theorem flatP_len (l : List R2) : (flatP l).length = l.length * 2 := by
  induction l with
  | nil => rfl
  | cons r t ih =>
    show (_ :: _ :: flatP t).length = _
    simp [ih]; omega
theorem flatP_app (a b : List R2) : flatP (a ++ b) = flatP a ++ flatP b := by simp [flatP]
theorem flatP_one (r : R2) : flatP [r] = [Value.int .i64 r.1, Value.int .i64 r.2] := by simp [flatP]
theorem flatP_get (l : List R2) : ∀ (i : Nat), i < l.length → (flatP l)[i * 2]? = some (.int .i64 (l.getD i (0, 0)).1) ∧ (flatP l)[i * 2 + 1]? = some (.int .i64 (l.getD i (0, 0)).2) := by
  induction l with
  | nil => intro i hi; simp at hi
  | cons r t ih =>
    intro i hi
    have e : flatP (r :: t) = Value.int .i64 r.1 :: Value.int .i64 r.2 :: flatP t := rfl
    rw [e]
    cases i with
    | zero => exact ⟨rfl, rfl⟩
    | succ i =>
      have := ih i (by simpa using hi)
      rw [show (i + 1) * 2 = i * 2 + 1 + 1 by omega]
      simpa using this
theorem flatP_one' : ∀ (l : List R2), ∀ u ∈ flatP l, u.oneCell' = true := by
  intro l u hu
  unfold flatP at hu
  simp only [List.mem_flatMap, List.mem_cons, List.not_mem_nil, or_false] at hu
  obtain ⟨r, _, rfl | rfl⟩ := hu <;> rfl

/-- A slice of pairs that can be read, below block B. -/
def Prs (B : Nat) (w : World) (A : Option Addr) (l : List R2) : Prop :=
  0 < l.length → ∃ b o : Nat, A = some ⟨b, o, none⟩ ∧ b < B ∧ ∀ i, i < l.length → w.cell? ⟨b, o + i * 2, none⟩ = some (.int .i64 (l.getD i (0, 0)).1) ∧ w.cell? ⟨b, o + i * 2 + 1, none⟩ = some (.int .i64 (l.getD i (0, 0)).2)
section
variable {B B' : Nat} {w w' : World} {A : Option Addr} {l : List R2}
theorem Prs.keep (h : Prs B w A l) (hk : ∀ p : Addr, p.block < B → w'.cell? p = w.cell? p) : Prs B w' A l := fun hl => by
  obtain ⟨b, o, e, hb, hc⟩ := h hl
  exact ⟨b, o, e, hb, fun i hi => ⟨(hk _ hb).trans (hc i hi).1, (hk _ hb).trans (hc i hi).2⟩⟩
theorem Prs.below (h : Prs B w A l) (hb : Below B w w') : Prs B w' A l := h.keep fun _ hp => World.cell?_of_block (hb.block _ hp)
theorem Prs.alloc (h : Prs B w A l) (hB : B ≤ w.heap.size) (o : Obj) : Prs B (w.alloc o) A l := h.keep fun p hp => World.cell?_alloc_lt w o p (Nat.lt_of_lt_of_le hp hB)
theorem Prs.drew (h : Prs B w A l) : Prs B w.drew A l := h
theorem Prs.drewN (h : Prs B w A l) (n : Nat) : Prs B (w.drewN n) A l := h
theorem Prs.setCell (h : Prs B w A l) {a : Addr} (ha : B ≤ a.block) (u : Value) : Prs B (w.setCell a u) A l := h.keep fun _ hp => World.cell?_of_block (Below.heap_setCell _ _ _ _ (by omega))
theorem Prs.more (h : Prs B w A l) (hB : B ≤ B') : Prs B' w A l := fun hl => by
  obtain ⟨b, o, e, hb, hc⟩ := h hl
  exact ⟨b, o, e, by omega, hc⟩
theorem Prs.nil : Prs B w A [] := fun h => absurd h (by simp)
theorem Prs.own {base : Nat} {E : TypeId} {len cap : Nat} (h : w.ownsRow base E 2 (.slice A len cap) len (flatP l)) : Prs w.heap.size w A l := fun hl => by
  have hlen : l.length = len := by have := h.1; rw [flatP_len] at this; omega
  obtain ⟨g, cap', e, hb, hlt⟩ := h.form (by omega)
  cases e
  refine ⟨g, 0, rfl, hlt, fun i hi => ?_⟩
  have h1 := h.cellAt (i * 2) (by omega)
  have h2 := h.cellAt (i * 2 + 1) (by omega)
  have hg := flatP_get l i hi
  rw [Nat.zero_add]
  exact ⟨h1.trans hg.1, h2.trans hg.2⟩
end
theorem Prs.view {B : Nat} {w : World} {A : Option Addr} {l : List R2} (h : Prs B w A l) : l.length = 0 ∨ ∃ b o, A = some ⟨b, o, none⟩ ∧ b < B ∧ ∀ i, i < l.length → w.cell? ⟨b, o + i * 2, none⟩ = some (.int .i64 (l.getD i (0, 0)).1) ∧ w.cell? ⟨b, o + i * 2 + 1, none⟩ = some (.int .i64 (l.getD i (0, 0)).2) := by
  by_cases h0 : l.length = 0
  · exact .inl h0
  · exact .inr (h (by omega))

theorem own_cap {w : World} {base : Nat} {e : TypeId} {size g n cap : Nat} {xs : List Value} (h : w.ownsRow base e size (.slice (some ⟨g, 0, none⟩) n cap) n xs) : n ≤ cap ∧ cap ≤ maxLen := by
  rcases h.2 with ⟨h', _⟩ | ⟨g', cap', cur, h', _, _, h1, h2, _⟩
  · simp at h'
  · simp only [Value.slice.injEq, Option.some.injEq, Addr.mk.injEq, and_true, true_and] at h'
    obtain ⟨rfl, rfl⟩ := h'
    exact ⟨h1, h2⟩
theorem own_more {base base' : Nat} {e : TypeId} {k : Nat} {v : Value} {n : Nat} {xs : List Value} {w : World} (h : w.ownsRow base e k v n xs) (hb : base' ≤ base) : w.ownsRow base' e k v n xs :=
  ⟨h.1, h.2.imp id fun ⟨g, cap, cur, a, b, c⟩ => ⟨g, cap, cur, a, by omega, c⟩⟩
section
variable {H : Type} {enc : TypeId × Value → H} {w : World} {base : Nat} {spare : Nat → Bool} {held : Bool}
theorem pairs_of_cells {P : Program} {t e : TypeId} {f0 f1 : Field} {A : Option Addr} {len cap fuel : Nat} {z : DataW H × List MemPlace} (ht : P.underlying t = some (.slice e)) (he : P.underlying e = some (.struct #[f0, f1]))
    (ce : P.cellsOf e = 2) (o0 : f0.offset = 0) (o1 : f1.offset = 1) (c0 : P.cellsOf f0.type = 1) (c1 : P.cellsOf f1.type = 1) (i0 : P.underlying f0.type = some (.int .i64)) (i1 : P.underlying f1.type = some (.int .i64))
    (hf : DataW.trod enc P w base spare held fuel t [.slice A len cap] = some z) : ∃ l : List R2, l.length = len ∧ Prs w.heap.size w A l ∧ (∀ r ∈ l, I64 r.1 ∧ I64 r.2) ∧ len ≤ cap ∧ cap ≤ maxLen := by
  rcases Go.Deep.open_slice_pairs ht he ce o0 o1 c0 c1 hf with ⟨hcs, _⟩ | ⟨a, l, c, m, n, V0, V1, D0, D1, P0, P1, hcs, _, hl, hm, hmm, _, hc⟩
  · simp at hcs
    obtain ⟨rfl, rfl, rfl⟩ := hcs
    exact ⟨[], rfl, Prs.nil, by simp, Nat.le_refl _, by simp [maxLen]⟩
  · simp at hcs
    obtain ⟨rfl, rfl, rfl⟩ := hcs
    have hlm : len ≤ m := by rw [hmm]; split <;> omega
    have each : ∀ i, i < len → V0 i = .int .i64 (intOf (V0 i)) ∧ V1 i = .int .i64 (intOf (V1 i)) ∧ I64 (intOf (V0 i)) ∧ I64 (intOf (V1 i)) := by
      intro i hi
      obtain ⟨_, _, h0, h1⟩ := hc i (by omega)
      obtain ⟨x, e0, _, wx⟩ := DataW.trod_int i0 h0
      obtain ⟨y, e1, _, wy⟩ := DataW.trod_int i1 h1
      simp only [List.cons.injEq, and_true] at e0 e1
      rw [e0, e1]
      exact ⟨rfl, rfl, i64_of_wf wx, i64_of_wf wy⟩
    refine ⟨(List.range len).map fun i => (intOf (V0 i), intOf (V1 i)), by simp, fun h0 => ?_, ?_, hl, hm⟩
    · simp at h0
      obtain ⟨b, off, spot⟩ := a
      have h1 := (hc 0 (by omega)).1
      have hspot : spot = none := by simpa [Addr.add] using World.cell?_spot h1
      subst hspot
      refine ⟨b, off, rfl, World.block_lt_of_cell? w _ h1, fun i hi => ?_⟩
      have hi' : i < len := by simpa using hi
      obtain ⟨k0, k1, _⟩ := hc i (by omega)
      obtain ⟨g0, g1, _⟩ := each i hi'
      rw [Go.WideShapes.add_plain] at k0 k1
      rw [show ((List.range len).map fun i => (intOf (V0 i), intOf (V1 i))).getD i (0, 0) = (intOf (V0 i), intOf (V1 i)) by simp [List.getD, hi']]
      exact ⟨by rw [k0, g0]; rfl, by rw [Nat.add_assoc, k1, g1]; rfl⟩
    · intro r hr
      simp only [List.mem_map, List.mem_range] at hr
      obtain ⟨i, hi, rfl⟩ := hr
      exact ⟨(each i hi).2.2.1, (each i hi).2.2.2⟩
theorem pairs_of_trod {P : Program} {t e : TypeId} {f0 f1 : Field} {A : Option Addr} {len cap : Nat} {d : DataW H} {p : List MemPlace} (ht : P.underlying t = some (.slice e)) (he : P.underlying e = some (.struct #[f0, f1]))
    (ce : P.cellsOf e = 2) (o0 : f0.offset = 0) (o1 : f1.offset = 1) (c0 : P.cellsOf f0.type = 1) (c1 : P.cellsOf f1.type = 1) (i0 : P.underlying f0.type = some (.int .i64)) (i1 : P.underlying f1.type = some (.int .i64))
    (h : DataW.Trod enc P w base spare held t (.slice A len cap) d p) : ∃ l : List R2, l.length = len ∧ Prs w.heap.size w A l ∧ (∀ r ∈ l, I64 r.1 ∧ I64 r.2) ∧ len ≤ cap ∧ cap ≤ maxLen := by
  obtain ⟨fuel, hf⟩ := h
  exact pairs_of_cells ht he ce o0 o1 c0 c1 i0 i1 (by simpa [Value.cells] using hf)
end
end Go.Proofs.YtinemkjoohgmjaaDoor
