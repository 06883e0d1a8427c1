/- Draws: a stamp; a stamp and a unit. -/
import Derived.Test.YtlhobebaobaoiaaDoorDrD
import Derived.Test.YtlhobebaobaoiaaDoorDrC
import Derived.Test.YtlhobebaobaoiaaDoorDrO
import Derived.Test.YtlhobebaobaoiaaDoorSw
import Derived.Test.YtlhobebaobaoiaaDoorStPl
namespace Go.Proofs.YtlhobebaobaoiaaDoor
open Go.RowKit

/-- A stamp that a reader drew. -/
def DrawnS (B g m k : Nat) (w : World) (e : Ending) (w' : World) : Prop :=
  ∃ x : S8, e = .returned (.agg x.v) ∧ Rd B w' g (m + k) ∧ w.grownBy w' (some g)
theorem Blk.onlyRow {a w : World} {row : Option Nat} (h : a.grownBy w row) {g : Nat} (hg : a.heap.size ≤ g) (c : Array Value) : a.grownBy (w.setRow g c) row :=
  ⟨h.os, h.tape, h.output, by simpa using h.size, fun k hk hne => (setRow_other w g k c (by omega)).trans (h.block k hk hne)⟩
theorem Rd.setRow {B g m : Nat} {w : World} (h : Rd B w g m) {k : Nat} (hk : g < k) (c : Array Value) : Rd B (w.setRow k c) g m :=
  h.keep (fun j hj => setRow_other w k j c (by omega)) (setRow_other w k g c (by omega))
theorem Rd.setRow' {B g m : Nat} {w : World} (h : Rd B w g m) {k : Nat} (hB : B ≤ k) (hk : k ≠ g) (c : Array Value) : Rd B (w.setRow k c) g m := by
  obtain ⟨hb, A, len, cap, p, hh, hp, hl, hs⟩ := h
  exact ⟨hb, A, len, cap, p, (setRow_other w k g c (Ne.symm hk)).trans hh, hp, hl, hs.keep fun q hq => World.cell?_of_block (setRow_other w k q.block c (by omega))⟩
section
attribute [local go_sem] cell_sp sp_alloc sp_drew sp_new storeP_sp
attribute [local go_sem ↓] storeP_eq
theorem l91Stamp_any {B g m : Nat} {w : World} (hr : Rd B w g m) (hm : m ≤ 80000) :
    Calls Tryd.prog 42 #[.pointer (some ⟨g, 0, none⟩)] w (DrawnS B g m 21 w) := by
  have hgl := hr.lt
  have R0 := Blk.new w 31 #[.int .i64 0, .int .i64 0, .int .i64 0, .int .i64 0, .int .i64 0, .int .i64 0, .int .i64 0, .int .i64 0]
  have G0 := only_alloc (only_refl w (some g)) (.cells #[.int .i64 0, .int .i64 0, .int .i64 0, .int .i64 0, .int .i64 0, .int .i64 0, .int .i64 0, .int .i64 0] 31)
  go_enter Tryd.func42, Tryd.ntmps42
  go_wp2_with fail
  refine (l91Date_any (hr.alloc _) (by omega)).mono ?_
  rintro e w1 ⟨y, mo, d, rfl, hr1, hg1⟩
  have R1 := R0.grown' hg1 (by omega)
  have G1 := only_trans G0 hg1
  go_wp2_with fail
  refine (l91Clock_any hr1 (by omega)).mono ?_
  rintro e w2 ⟨h, mi, s, ms, rfl, hr2, hg2⟩
  have R2 := R1.grown' hg2 (by omega)
  have G2 := only_trans G1 hg2
  go_wp2_with fail
  refine (l91Offset_any hr2 (by omega)).mono ?_
  rintro e w3 ⟨o, _, _, rfl, hr3, hg3⟩
  have R3 := R2.grown' hg3 (by omega)
  have G3 := only_trans G2 hg3
  have hsp := R3.sp rfl
  clear R0 R1 R2 R3 G0 G1 G2 hg1 hg2 hg3 hr1 hr2
  go_wp2_with fail
  refine bodyPost_ret (by simp [results, Tryd.results42, go_sem, cell_sp hsp]; try rfl) rfl ?_
  exact ⟨⟨y, mo, d, h, mi, s, ms, o⟩, rfl, (hr3.more (by omega)).setRow hgl _, Blk.onlyRow G3 (Nat.le_refl _) _⟩
/-- A drawn stamp and a unit. -/
def DrawnSU (w : World) (e : Ending) (w' : World) : Prop :=
  ∃ (x : S8) (u : Int), -1 ≤ u ∧ u ≤ 86400000 ∧ e = .returned (.tuple #[.agg x.v, .int .i64 u]) ∧ Below w.heap.size w w'
theorem drawSU {B len cap : Nat} {A : Option Addr} {w : World} (hs : Src B w A len) (hB : B ≤ w.heap.size) (hc : len ≤ cap) (hm : cap ≤ maxLen) :
    Calls Tryd.prog 19 #[.slice A len cap] w (DrawnSU w) := by
  have R0 := Blk.new w 31 #[.int .i64 0, .int .i64 0, .int .i64 0, .int .i64 0, .int .i64 0, .int .i64 0, .int .i64 0, .int .i64 0]
  go_enter Tryd.func19, Tryd.ntmps19
  go_wp2_with fail
  refine (l6Open_any (hs.keep fun p hp => World.cell?_alloc_lt w _ p (by omega)) (by simp; omega) hc hm).mono ?_
  rintro e w1 ⟨g, rfl, hg, hr1, hb1⟩
  have hg' : w.heap.size < g := Nat.lt_of_lt_of_le R0.lt hg
  have R1 := R0.below hb1 R0.lt
  have B1 := bto (bal (Below.refl w.heap.size w) (.cells #[.int .i64 0, .int .i64 0, .int .i64 0, .int .i64 0, .int .i64 0, .int .i64 0, .int .i64 0, .int .i64 0] 31)) hb1
  go_wp2_with fail
  refine (l91Stamp_any hr1 (by omega)).mono ?_
  rintro e w2 ⟨⟨y, mo, d, h, mi, s, ms, o⟩, rfl, hr2, hg2⟩
  simp only [S8.v]
  have hgl2 := hr2.lt
  have R2a := R1.grown' hg2 (by omega)
  have hrl2 := R2a.lt
  have R2 := hide ((R2a.alloc (.cells #[.int .i64 0, .int .i64 0, .int .i64 0, .int .i64 0, .int .i64 0, .int .i64 0, .int .i64 0, .int .i64 0] 31)).setRow_far (k := w2.heap.size) (Nat.ne_of_lt hrl2) #[.int .i64 y, .int .i64 mo, .int .i64 d, .int .i64 h, .int .i64 mi, .int .i64 s, .int .i64 ms, .int .i64 o])
  have X2 := hide ((Blk.new w2 31 #[.int .i64 0, .int .i64 0, .int .i64 0, .int .i64 0, .int .i64 0, .int .i64 0, .int .i64 0, .int .i64 0]).setRow #[.int .i64 y, .int .i64 mo, .int .i64 d, .int .i64 h, .int .i64 mi, .int .i64 s, .int .i64 ms, .int .i64 o])
  have B2 := hide (brow (bal (bonly B1 hg2 (Nat.le_of_lt hg')) (.cells #[.int .i64 0, .int .i64 0, .int .i64 0, .int .i64 0, .int .i64 0, .int .i64 0, .int .i64 0, .int .i64 0] 31)) (Nat.le_of_lt hrl2) #[.int .i64 y, .int .i64 mo, .int .i64 d, .int .i64 h, .int .i64 mi, .int .i64 s, .int .i64 ms, .int .i64 o])
  have T2 := Rd.setRow (hr2.alloc (.cells #[.int .i64 0, .int .i64 0, .int .i64 0, .int .i64 0, .int .i64 0, .int .i64 0, .int .i64 0, .int .i64 0] 31)) hgl2 #[.int .i64 y, .int .i64 mo, .int .i64 d, .int .i64 h, .int .i64 mi, .int .i64 s, .int .i64 ms, .int .i64 o]
  clear R2a
  clear R0 R1 B1 hb1 hg2
  go_wp2_with fail
  have hspA := R2.out.sp rfl
  have hsz2 := hg'
  go_region_with (first | (go_simp; go_at_call 43; (first | (with_reducible refine (l92Unit_any (Rd.drew T2) (by omega)).mono ?_) | (with_reducible refine (l92Unit_any (Rd.setRow' (Rd.drew T2) hB (Nat.ne_of_lt hg') _) (by omega)).mono ?_)); rintro e w3 ⟨u, hu0, hu1, rfl, hr3, hg3⟩; (first | (have X3 := X2.out.drew.grown' hg3 (Nat.ne_of_gt hgl2); have R3 := R2.out.drew.grown' hg3 (Nat.ne_of_lt hg'); have B3 := hide (bonly (bdrew B2.out) hg3 (Nat.le_of_lt hg'))) | (have X3 := (X2.out.drew.setRow_far (Nat.ne_of_gt (Nat.lt_trans hg' hgl2)) _).grown' hg3 (Nat.ne_of_gt hgl2); have R3 := (R2.out.drew.setRow _).grown' hg3 (Nat.ne_of_lt hg'); have B3 := hide (bonly (brow (bdrew B2.out) (Nat.le_refl _) _) hg3 (Nat.le_of_lt hg')))); have q0 := X3.cell 0; have q1 := X3.cell 1; have q2 := X3.cell 2; have q3 := X3.cell 3; have q4 := X3.cell 4; have q5 := X3.cell 5; have q6 := X3.cell 6; have q7 := X3.cell 7; have hsp := R3.sp rfl; have R3' := hide R3; simp at q0 q1 q2 q3 q4 q5 q6 q7))
  all_goals
    go_wp2_with fail
    have p0 := R3'.out.cell 0
    have p1 := R3'.out.cell 1
    have p2 := R3'.out.cell 2
    have p3 := R3'.out.cell 3
    have p4 := R3'.out.cell 4
    have p5 := R3'.out.cell 5
    have p6 := R3'.out.cell 6
    have p7 := R3'.out.cell 7
    simp at p0 p1 p2 p3 p4 p5 p6 p7
    refine bodyPost_ret (v := .tuple #[.agg #[.int .i64 y, .int .i64 mo, .int .i64 d, .int .i64 h, .int .i64 mi, .int .i64 s, .int .i64 ms, .int .i64 o], .int .i64 u]) (by first | (simp [results, Tryd.results19, go_sem, cell_sp hsp]; done) | (simp [results, Tryd.results19, go_sem, p0, p1, p2, p3, p4, p5, p6, p7]; done)) rfl ?_
    exact ⟨⟨y, mo, d, h, mi, s, ms, o⟩, u, hu0, hu1, rfl, by first | exact brow B3.out (Nat.le_refl _) _ | exact B3.out⟩
end
end Go.Proofs.YtlhobebaobaoiaaDoor
