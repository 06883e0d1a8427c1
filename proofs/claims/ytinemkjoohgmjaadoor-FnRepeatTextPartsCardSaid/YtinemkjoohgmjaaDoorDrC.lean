/- Draws: a time of a day. -/
import Derived.Test.YtinemkjoohgmjaaDoorDr
namespace Go.Proofs.YtinemkjoohgmjaaDoor
open Go.RowKit

/-- What stands while a time is drawn. -/
structure Cs (w0 w : World) (B g m rb cb : Nat) (h mi s ms : Int) : Prop where
  D : Blk w cb 26 #[.int .i64 h, .int .i64 mi, .int .i64 s, .int .i64 ms]
  R : Blk w rb 26 #[.int .i64 0, .int .i64 0, .int .i64 0, .int .i64 0]
  T : Rd B w g m
  G : w0.grownBy w (some g)
  h0 : g < rb
  h1 : rb < cb
  h2 : w0.heap.size ≤ rb
section
variable {w0 w w' : World} {B g m rb cb : Nat} {h mi s ms : Int}
theorem Cs.pick (S : Cs w0 w B g m rb cb h mi s ms) {m' : Nat} (hr : Rd B w' g m') (hg : w.grownBy w' (some g)) : Cs w0 w' B g m' rb cb h mi s ms :=
  have a0 := S.h0; have a1 := S.h1
  ⟨S.D.grown' hg (by omega), S.R.grown' hg (by omega), hr, only_trans S.G hg, S.h0, S.h1, S.h2⟩
theorem Cs.hour (S : Cs w0 w B g m rb cb h mi s ms) (z : Int) : Cs w0 (w.setCell ⟨cb, 0, none⟩ (.int .i64 z)) B g m rb cb z mi s ms :=
  have a0 := S.h0; have a1 := S.h1; have a2 := S.h2
  ⟨S.D.set_ 0 _, S.R.far (p := ⟨cb, 0, none⟩) (show rb ≠ cb by omega) _, S.T.setCell (show g < cb by omega) _, only_setCell S.G (.inr (show w0.heap.size ≤ cb by omega)) _, S.h0, S.h1, S.h2⟩
theorem Cs.sec (S : Cs w0 w B g m rb cb h mi s ms) (z : Int) : Cs w0 (w.setCell ⟨cb, 2, none⟩ (.int .i64 z)) B g m rb cb h mi z ms :=
  have a0 := S.h0; have a1 := S.h1; have a2 := S.h2
  ⟨S.D.set_ 2 _, S.R.far (p := ⟨cb, 2, none⟩) (show rb ≠ cb by omega) _, S.T.setCell (show g < cb by omega) _, only_setCell S.G (.inr (show w0.heap.size ≤ cb by omega)) _, S.h0, S.h1, S.h2⟩
theorem Cs.cs (S : Cs w0 w B g m rb cb h mi s ms) : w.cell? ⟨cb, 0, none⟩ = some (.int .i64 h) ∧ w.cell? ⟨cb, 1, none⟩ = some (.int .i64 mi) ∧ w.cell? ⟨cb, 2, none⟩ = some (.int .i64 s) ∧ w.cell? ⟨cb, 3, none⟩ = some (.int .i64 ms) := ⟨S.D.cell 0, S.D.cell 1, S.D.cell 2, S.D.cell 3⟩
theorem Cs.rs (S : Cs w0 w B g m rb cb h mi s ms) : w.cell? ⟨rb, 0, none⟩ = some (.int .i64 0) ∧ w.cell? ⟨rb, 1, none⟩ = some (.int .i64 0) ∧ w.cell? ⟨rb, 2, none⟩ = some (.int .i64 0) ∧ w.cell? ⟨rb, 3, none⟩ = some (.int .i64 0) := ⟨S.R.cell 0, S.R.cell 1, S.R.cell 2, S.R.cell 3⟩
end
/-- A time that a reader drew. -/
def DrawnC (B g m k : Nat) (w : World) (e : Ending) (w' : World) : Prop :=
  ∃ h mi s ms : Int, e = .returned (.agg #[.int .i64 h, .int .i64 mi, .int .i64 s, .int .i64 ms]) ∧ Rd B w' g (m + k) ∧ w.grownBy w' (some g)
theorem Cs.done {w0 w : World} {B g m m' cb : Nat} {h mi s ms a b c d : Int} {e : Ending} (S : Cs w0 w B g m' w0.heap.size cb h mi s ms) (hm : m' ≤ m + 10) (he : e = .returned (.agg #[.int .i64 a, .int .i64 b, .int .i64 c, .int .i64 d])) :
    DrawnC B g m 10 w0 e ((((w.setCell ⟨w0.heap.size, 0, none⟩ (.int .i64 a)).setCell ⟨w0.heap.size, 1, none⟩ (.int .i64 b)).setCell ⟨w0.heap.size, 2, none⟩ (.int .i64 c)).setCell ⟨w0.heap.size, 3, none⟩ (.int .i64 d)) :=
  ⟨a, b, c, d, he, ((((S.T.more hm).setCell (a := ⟨w0.heap.size, 0, none⟩) S.h0 _).setCell (a := ⟨w0.heap.size, 1, none⟩) S.h0 _).setCell (a := ⟨w0.heap.size, 2, none⟩) S.h0 _).setCell (a := ⟨w0.heap.size, 3, none⟩) S.h0 _,
    only_setCell (only_setCell (only_setCell (only_setCell S.G (.inr (Nat.le_refl _)) _) (.inr (Nat.le_refl _)) _) (.inr (Nat.le_refl _)) _) (.inr (Nat.le_refl _)) _⟩

set_option maxHeartbeats 4000000 in
theorem l91Clock_any {B g m : Nat} {w : World} (hr : Rd B w g m) (hm : m ≤ 90000) :
    Calls Tryd.prog 64 #[.pointer (some ⟨g, 0, none⟩)] w (DrawnC B g m 10 w) := by
  have hgl := hr.lt
  have R0 := Blk.new w 26 #[.int .i64 0, .int .i64 0, .int .i64 0, .int .i64 0]
  have G0 := only_alloc (only_refl w (some g)) (.cells #[.int .i64 0, .int .i64 0, .int .i64 0, .int .i64 0] 26)
  go_enter Tryd.func64, Tryd.ntmps64
  go_wp2_with fail
  refine (pick_any (hr.alloc _) (by omega) (by omega)).mono ?_
  rintro e w1 ⟨v1, a1, b1, rfl, hr1, hg1⟩
  have R1 := R0.grown' hg1 (by omega)
  have G1 := only_trans G0 hg1
  clear R0 G0 hg1
  go_wp2_with fail
  refine (pick_any hr1 (by omega) (by omega)).mono ?_
  rintro e w2 ⟨v2, a2, b2, rfl, hr2, hg2⟩
  have R2 := R1.grown' hg2 (by omega)
  have G2 := only_trans G1 hg2
  clear R1 G1 hg2 hr1
  go_wp2_with fail
  refine (pick_any hr2 (by omega) (by omega)).mono ?_
  rintro e w3 ⟨v3, a3, b3, rfl, hr3, hg3⟩
  have R3 := R2.grown' hg3 (by omega)
  have G3 := only_trans G2 hg3
  clear R2 G2 hg3 hr2
  go_wp2_with fail
  refine (pick_any hr3 (by omega) (by omega)).mono ?_
  rintro e w4 ⟨v4, a4, b4, rfl, hr4, hg4⟩
  have R4 := R3.grown' hg4 (by omega)
  have G4 := only_trans G3 hg4
  clear R3 G3 hg4 hr3
  go_wp2_with fail
  refine (pick_any hr4 (by omega) (by omega)).mono ?_
  rintro e w5 ⟨v5, a5, b5, rfl, hr5, hg5⟩
  have R5 := R4.grown' hg5 (by omega)
  have G5 := only_trans G4 hg5
  clear R4 G4 hg5 hr4
  go_wp2_with fail
  refine (pick_any hr5 (by omega) (by omega)).mono ?_
  rintro e w6 ⟨v6, a6, b6, rfl, hr6, hg6⟩
  have R6 := R5.grown' hg6 (by omega)
  have G6 := only_trans G5 hg6
  clear R5 G5 hg6 hr5
  go_wp2_with fail
  refine (pick_any hr6 (by omega) (by omega)).mono ?_
  rintro e w7 ⟨v7, a7, b7, rfl, hr7, hg7⟩
  have R7 := R6.grown' hg7 (by omega)
  have G7 := only_trans G6 hg7
  have hgl7 := hr7.lt
  have hrl7 := R7.lt
  clear R6 G6 hg7 hr6
  go_wp2_with fail
  refine (pick_any (hr7.alloc _) (by omega) (by omega)).mono ?_
  rintro e w8 ⟨v8, a8, b8, rfl, hr8, hg8⟩
  have R8 := (R7.alloc _).grown' hg8 (by omega)
  have G8 := only_trans (only_alloc G7 _) hg8
  obtain ⟨k8, rfl⟩ := Int.eq_ofNat_of_zero_le a8
  obtain ⟨z8, hz8⟩ : ∃ z : Int, w8.cell? ⟨w7.heap.size, k8, none⟩ = some (.int .i64 z) := by
    have hbl := (Blk.newE (W := w7) (g := w7.heap.size) rfl).grown' hg8 (by omega)
    have := hbl.cell k8
    rcases (show k8 = 0 ∨ k8 = 1 ∨ k8 = 2 ∨ k8 = 3 ∨ k8 = 4 ∨ k8 = 5 by omega) with rfl | rfl | rfl | rfl | rfl | rfl
    all_goals exact ⟨_, this⟩
  have hrl8 := R8.lt
  have hgl8 := hr8.lt
  have hlt8 := hg8.size
  simp at hlt8
  clear R7 G7 hg8 hr7
  have S8 := hide (show Cs w (w8.alloc (.cells #[.int .i64 v1, .int .i64 v2, .int .i64 v3, .int .i64 z8] 26)) B g (m + 8) w.heap.size w8.heap.size v1 v2 v3 z8 from
    ⟨Blk.new _ _ _, R8.alloc _, (hr8.alloc _).more (by omega), only_alloc G8 _, hgl, hrl8, Nat.le_refl _⟩)
  clear R8 G8 hr8
  go_wp2_with fail
  refine (pick_any S8.out.T (by omega) (by omega)).mono ?_
  rintro e w9 ⟨v9, a9, b9, rfl, hr9, hg9⟩
  have S9 := hide (S8.out.pick hr9 hg9)
  clear hr9 hg9 S8 hz8
  obtain ⟨cb, hcb⟩ : ∃ cb, cb = w8.heap.size := ⟨_, rfl⟩
  rw [← hcb] at S9 hrl8 ⊢
  clear hcb
  have h01 := S9.out.h0
  have h12 := S9.out.h1
  obtain ⟨c0, c1, c2, c3⟩ := S9.out.cs
  obtain ⟨r0, r1, r2, r3⟩ := S9.out.rs
  have rf0 := S9.out.R.frozen 0
  have rf1 := S9.out.R.frozen 1
  have rf2 := S9.out.R.frozen 2
  have rf3 := S9.out.R.frozen 3
  have f0 := S9.out.D.frozen 0
  have f2 := S9.out.D.frozen 2
  by_cases h0 : v9 = 0
  · subst h0
    go_wp2_with fail
    have RR := (((S9.out.R.set_ 0 (.int .i64 24)).set_ 1 (.int .i64 0)).set_ 2 (.int .i64 0)).set_ 3 (.int .i64 0)
    have q0 := RR.cell 0
    have q1 := RR.cell 1
    have q2 := RR.cell 2
    have q3 := RR.cell 3
    simp at q0 q1 q2 q3
    refine bodyPost_ret (by simp [results, Tryd.results64, go_sem, q0, q1, q2, q3]; try rfl) rfl ?_
    exact S9.out.done (by omega) rfl
  · have g0 : (v9 == 0) = false := beq_eq_false_iff_ne.2 h0
    by_cases h1 : v9 = 1
    · subst h1
      clear r0 r1 r2 r3 rf0 rf1 rf2 rf3 c0 c1 c2 c3 f0 f2
      go_wp2_with fail
      refine (pick_any S9.out.T (by omega) (by omega)).mono ?_
      rintro e w10 ⟨v10, a10, b10, rfl, hr10, hg10⟩
      have S10 := hide (S9.out.pick hr10 hg10)
      have S11 := hide (S10.out.hour (24 + v10))
      have f0 := S10.out.D.frozen 0
      obtain ⟨c0, c1, c2, c3⟩ := S10.out.cs
      obtain ⟨d0, d1, d2, d3⟩ := S11.out.cs
      obtain ⟨r0, r1, r2, r3⟩ := S11.out.rs
      have rf0 := S11.out.R.frozen 0
      have rf1 := S11.out.R.frozen 1
      have rf2 := S11.out.R.frozen 2
      have rf3 := S11.out.R.frozen 3
      clear hr10 hg10
      go_wp2_with fail
      have RR := (((S11.out.R.set_ 0 (.int .i64 (24 + v10))).set_ 1 (.int .i64 v2)).set_ 2 (.int .i64 v3)).set_ 3 (.int .i64 z8)
      have q0 := RR.cell 0
      have q1 := RR.cell 1
      have q2 := RR.cell 2
      have q3 := RR.cell 3
      simp at q0 q1 q2 q3
      refine bodyPost_ret (by simp [results, Tryd.results64, go_sem, q0, q1, q2, q3]; try rfl) rfl ?_
      exact S11.out.done (by omega) rfl
    · have g1 : (v9 == 1) = false := beq_eq_false_iff_ne.2 h1
      by_cases h2 : v9 = 2
      · subst h2
        clear r0 r1 r2 r3 rf0 rf1 rf2 rf3 c0 c1 c2 c3 f0 f2
        go_wp2_with fail
        refine (pick_any S9.out.T (by omega) (by omega)).mono ?_
        rintro e w10 ⟨v10, a10, b10, rfl, hr10, hg10⟩
        have S10 := hide (S9.out.pick hr10 hg10)
        have S11 := hide (S10.out.sec (60 - v10))
        have f2 := S10.out.D.frozen 2
        obtain ⟨c0, c1, c2, c3⟩ := S10.out.cs
        obtain ⟨d0, d1, d2, d3⟩ := S11.out.cs
        obtain ⟨r0, r1, r2, r3⟩ := S11.out.rs
        have rf0 := S11.out.R.frozen 0
        have rf1 := S11.out.R.frozen 1
        have rf2 := S11.out.R.frozen 2
        have rf3 := S11.out.R.frozen 3
        clear hr10 hg10
        go_wp2_with fail
        have RR := (((S11.out.R.set_ 0 (.int .i64 v1)).set_ 1 (.int .i64 v2)).set_ 2 (.int .i64 (60 - v10))).set_ 3 (.int .i64 z8)
        have q0 := RR.cell 0
        have q1 := RR.cell 1
        have q2 := RR.cell 2
        have q3 := RR.cell 3
        simp at q0 q1 q2 q3
        refine bodyPost_ret (by simp [results, Tryd.results64, go_sem, q0, q1, q2, q3]; try rfl) rfl ?_
        exact S11.out.done (by omega) rfl
      · have g2 : (v9 == 2) = false := beq_eq_false_iff_ne.2 h2
        by_cases h3 : v9 = 3
        · subst h3
          go_wp2_with fail
          have RR := (((S9.out.R.set_ 0 (.int .i64 0)).set_ 1 (.int .i64 0)).set_ 2 (.int .i64 0)).set_ 3 (.int .i64 0)
          have q0 := RR.cell 0
          have q1 := RR.cell 1
          have q2 := RR.cell 2
          have q3 := RR.cell 3
          simp at q0 q1 q2 q3
          refine bodyPost_ret (by simp [results, Tryd.results64, go_sem, q0, q1, q2, q3]; try rfl) rfl ?_
          exact S9.out.done (by omega) rfl
        · have g3 : (v9 == 3) = false := beq_eq_false_iff_ne.2 h3
          go_wp2_with fail
          have RR := (((S9.out.R.set_ 0 (.int .i64 v1)).set_ 1 (.int .i64 v2)).set_ 2 (.int .i64 v3)).set_ 3 (.int .i64 z8)
          have q0 := RR.cell 0
          have q1 := RR.cell 1
          have q2 := RR.cell 2
          have q3 := RR.cell 3
          simp at q0 q1 q2 q3
          refine bodyPost_ret (by simp [results, Tryd.results64, go_sem, q0, q1, q2, q3]; try rfl) rfl ?_
          exact S9.out.done (by omega) rfl
end Go.Proofs.YtinemkjoohgmjaaDoor
