/- Draws: a stamp; a stamp and a unit. -/
import Derived.Test.YtinemkjoohgmjaaDoorDrD
import Derived.Test.YtinemkjoohgmjaaDoorDrC
import Derived.Test.YtinemkjoohgmjaaDoorDrO
import Derived.Test.YtinemkjoohgmjaaDoorSw
import Derived.Test.YtinemkjoohgmjaaDoorStPl
namespace Go.Proofs.YtinemkjoohgmjaaDoor
open Go.RowKit

/-- A stamp that a reader drew. -/
def DrawnS (B g m k : Nat) (w : World) (e : Ending) (w' : World) : Prop :=
  ∃ x : S8, e = .returned (.agg x.v) ∧ Rd B w' g (m + k) ∧ w.grownBy w' (some g)
theorem Blk.onlyRow {a w : World} {row : Option Nat} (h : a.grownBy w row) {g : Nat} (hg : a.heap.size ≤ g) (c : Array Value) : a.grownBy (w.setRow g c) row :=
  ⟨h.os, h.tape, h.output, by simpa using h.size, fun k hk hne => (setRow_other w g k c (by omega)).trans (h.block k hk hne)⟩
theorem Rd.setRow {B g m : Nat} {w : World} (h : Rd B w g m) {k : Nat} (hk : g < k) (c : Array Value) : Rd B (w.setRow k c) g m :=
  h.keep (fun j hj => setRow_other w k j c (by omega)) (setRow_other w k g c (by omega))
theorem Rd.setRow' {B g m : Nat} {w : World} (h : Rd B w g m) {k : Nat} (hB : B ≤ k) (hk : k ≠ g) (c : Array Value) : Rd B (w.setRow k c) g m := by
  obtain ⟨hb, A, len, cap, p, hh, hp, hl, hs⟩ := h
  exact ⟨hb, A, len, cap, p, (setRow_other w k g c (Ne.symm hk)).trans hh, hp, hl, hs.keep fun q hq => World.cell?_of_block (setRow_other w k q.block c (by omega))⟩
section
attribute [local go_sem] cell_sp sp_alloc sp_drew sp_new storeP_sp
attribute [local go_sem ↓] storeP_eq
theorem l91Stamp_any {B g m : Nat} {w : World} (hr : Rd B w g m) (hm : m ≤ 80000) :
    Calls Tryd.prog 39 #[.pointer (some ⟨g, 0, none⟩)] w (DrawnS B g m 21 w) := by
  have hgl := hr.lt
  have R0 := Blk.new w 28 #[.int .i64 0, .int .i64 0, .int .i64 0, .int .i64 0, .int .i64 0, .int .i64 0, .int .i64 0, .int .i64 0]
  have G0 := only_alloc (only_refl w (some g)) (.cells #[.int .i64 0, .int .i64 0, .int .i64 0, .int .i64 0, .int .i64 0, .int .i64 0, .int .i64 0, .int .i64 0] 28)
  go_enter Tryd.func39, Tryd.ntmps39
  go_wp2_with fail
  refine (l91Date_any (hr.alloc _) (by omega)).mono ?_
  rintro e w1 ⟨y, mo, d, rfl, hr1, hg1⟩
  have R1 := R0.grown' hg1 (by omega)
  have G1 := only_trans G0 hg1
  go_wp2_with fail
  refine (l91Clock_any hr1 (by omega)).mono ?_
  rintro e w2 ⟨h, mi, s, ms, rfl, hr2, hg2⟩
  have R2 := R1.grown' hg2 (by omega)
  have G2 := only_trans G1 hg2
  go_wp2_with fail
  refine (l91Offset_any hr2 (by omega)).mono ?_
  rintro e w3 ⟨o, _, _, rfl, hr3, hg3⟩
  have R3 := R2.grown' hg3 (by omega)
  have G3 := only_trans G2 hg3
  have hsp := R3.sp rfl
  clear R0 R1 R2 R3 G0 G1 G2 hg1 hg2 hg3 hr1 hr2
  go_wp2_with fail
  refine bodyPost_ret (by simp [results, Tryd.results39, go_sem, cell_sp hsp]; try rfl) rfl ?_
  exact ⟨⟨y, mo, d, h, mi, s, ms, o⟩, rfl, (hr3.more (by omega)).setRow hgl _, Blk.onlyRow G3 (Nat.le_refl _) _⟩
end
end Go.Proofs.YtinemkjoohgmjaaDoor
