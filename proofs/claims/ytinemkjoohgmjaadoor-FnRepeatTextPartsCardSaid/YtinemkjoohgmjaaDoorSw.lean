/- A struct stored whole into a block that is known. -/
import Derived.Test.YtinemkjoohgmjaaDoorBase
import Derived.Laws.Tables
namespace Go.Proofs.YtinemkjoohgmjaaDoor
open Go.RowKit

theorem Blk.setRow {w : World} {g : Nat} {t : TypeId} {c : Array Value} (h : Blk w g t c) (c' : Array Value) : Blk (w.setRow g c') g t c' := setRow_heap w g c c' t (0, 0) h
theorem Blk.setRow_far {w : World} {g k : Nat} {t : TypeId} {c : Array Value} (h : Blk w g t c) (hk : g ≠ k) (c' : Array Value) : Blk (w.setRow k c') g t c := (setRow_other w k g c' hk).trans h
theorem brow {w0 w : World} (h : Below w0.heap.size w0 w) {g : Nat} (hg : w0.heap.size ≤ g) (c : Array Value) : Below w0.heap.size w0 (w.setRow g c) :=
  ⟨h.os, h.tape, h.output, by simpa using h.size, fun k hk => (setRow_other w g k c (by omega)).trans (h.block k hk)⟩
theorem wpList_store_row {P : Program} {w : World} {ops : Array Oper} {rest : List Oper} {o : Oper} {a : Act} {Q : Exit → Act → World → Prop} (hgd : o.guard = none) (T : TypeId) (p v : Operand) (hop : o.op = .store T p v)
    (g : Nat) (t : TypeId) (c c' : Array Value) (hp : a.eval p = .pointer (some ⟨g, 0, none⟩)) (hv : a.eval v = .agg c') (hB : Blk w g t c) (hi : (P.info? T).map (·.size) = some c'.size) (ho : c.size = c'.size) (h1 : c'.all (·.oneCell') = true)
    (hK : wpList P ops Q rest (a.put o.dst undef) (w.setRow g c')) : wpList P ops Q (o :: rest) a w := by
  refine wpList_plain hgd fun K hK' => ?_
  have hr := run_storeVar_row (P := P) w g t T c c' hB hi ho h1
  unfold Oper.wp
  simp [execOp, hop, Instr.storeAt, Instr.sureAddr, hp, hv, hr, Result.andThen]
  exact hK' _ _ hK
/-- Eight numbers stored from a block's head on. -/
theorem store8 {P : Program} {w : World} {g : Nat} {t : TypeId} {c : Array Value} (h : Blk w g t c) (hc : c.size = 8) (v0 v1 v2 v3 v4 v5 v6 v7 : Int) :
    (storeCells ⟨g, 0, none⟩ [.int .i64 v0, .int .i64 v1, .int .i64 v2, .int .i64 v3, .int .i64 v4, .int .i64 v5, .int .i64 v6, .int .i64 v7] 0).run P w = .ok () (w.setRow g #[.int .i64 v0, .int .i64 v1, .int .i64 v2, .int .i64 v3, .int .i64 v4, .int .i64 v5, .int .i64 v6, .int .i64 v7]) := by
  have := run_storeCells_from (P := P) g t [.int .i64 v0, .int .i64 v1, .int .i64 v2, .int .i64 v3, .int .i64 v4, .int .i64 v5, .int .i64 v6, .int .i64 v7] 0 c w h (by simp [hc]) (by intro v hv; simp at hv; rcases hv with rfl | rfl | rfl | rfl | rfl | rfl | rfl | rfl <;> rfl)
  simpa using this
/-- Block g is a stamp's. -/
def Sp (w : World) (g : Nat) : Prop := ∃ c : Array Value, c.size = 8 ∧ Blk w g 28 c
theorem Blk.sp {w : World} {g : Nat} {c : Array Value} (h : Blk w g 28 c) (hc : c.size = 8) : Sp w g := ⟨c, hc, h⟩
theorem sp_alloc {w : World} {g : Nat} (o : Obj) (h : Sp w g) : Sp (w.alloc o) g := by
  obtain ⟨c, hc, h⟩ := h
  exact ⟨c, hc, h.alloc o⟩
theorem sp_drew {w : World} {g : Nat} (h : Sp w g) : Sp w.drew g := h
theorem sp_below {w w' : World} {g : Nat} (h : Sp w g) (hb : Below w.heap.size w w') : Sp w' g := by
  obtain ⟨c, hc, h⟩ := h
  exact ⟨c, hc, h.below hb h.lt⟩
theorem stI : (Tryd.prog.info? 28).map (·.size) = some 8 := by kernel_rfl
theorem storeAt_sp {w : World} {g : Nat} (h : Sp w g) (v0 v1 v2 v3 v4 v5 v6 v7 : Int) :
    (Instr.storeAt 28 (.pointer (some ⟨g, 0, none⟩)) (.agg #[.int .i64 v0, .int .i64 v1, .int .i64 v2, .int .i64 v3, .int .i64 v4, .int .i64 v5, .int .i64 v6, .int .i64 v7])).run Tryd.prog w = .ok () (w.setRow g #[.int .i64 v0, .int .i64 v1, .int .i64 v2, .int .i64 v3, .int .i64 v4, .int .i64 v5, .int .i64 v6, .int .i64 v7]) := by
  obtain ⟨c, hc, h⟩ := h
  have hr := run_storeVar_row (P := Tryd.prog) w g 28 28 c #[.int .i64 v0, .int .i64 v1, .int .i64 v2, .int .i64 v3, .int .i64 v4, .int .i64 v5, .int .i64 v6, .int .i64 v7] h stI (by simpa using hc) (by simp [Value.oneCell'])
  simp only [Instr.storeAt, Instr.sureAddr, Sem.run_bind, Sem.run_pure, Result.andThen]
  exact hr
theorem cell_sp {w : World} {g : Nat} (h : Sp w g) (cs : Array Value) (j : Nat) : (w.setRow g cs).cell? ⟨g, j, none⟩ = cs[j]? := by
  obtain ⟨c, hc, h⟩ := h
  exact cell_setRow_same w g j c cs _ (0, 0) h
/-- A store of a stamp, kept shut from the walk's own steps. -/
def storeP (a x : Value) : Sem Unit := Instr.storeAt 28 a x
theorem storeP_eq (a x : Value) : Instr.storeAt 28 a x = storeP a x := rfl
theorem storeP_sp {w : World} {g : Nat} (h : Sp w g) (v0 v1 v2 v3 v4 v5 v6 v7 : Int) :
    (storeP (.pointer (some ⟨g, 0, none⟩)) (.agg #[.int .i64 v0, .int .i64 v1, .int .i64 v2, .int .i64 v3, .int .i64 v4, .int .i64 v5, .int .i64 v6, .int .i64 v7])).run Tryd.prog w = .ok () (w.setRow g #[.int .i64 v0, .int .i64 v1, .int .i64 v2, .int .i64 v3, .int .i64 v4, .int .i64 v5, .int .i64 v6, .int .i64 v7]) := storeAt_sp h v0 v1 v2 v3 v4 v5 v6 v7
theorem sp_new (w : World) (v0 v1 v2 v3 v4 v5 v6 v7 : Value) : Sp (w.alloc (.cells #[v0, v1, v2, v3, v4, v5, v6, v7] 28)) w.heap.size := ⟨_, rfl, Blk.new _ _ _⟩
end Go.Proofs.YtinemkjoohgmjaaDoor
