/- Draws: a date. -/
import Derived.Test.YtinemkjoohgmjaaDoorDr
namespace Go.Proofs.YtinemkjoohgmjaaDoor
open Go.RowKit

/-- What stands while a date is drawn. -/
structure Ds (w0 w : World) (B g m rb db : Nat) (y mo d : Int) : Prop where
  D : Blk w db 24 #[.int .i64 y, .int .i64 mo, .int .i64 d]
  R : Blk w rb 24 #[.int .i64 0, .int .i64 0, .int .i64 0]
  T : Rd B w g m
  G : w0.grownBy w (some g)
  h0 : g < rb
  h1 : rb < db
  h2 : w0.heap.size ≤ rb
section
variable {w0 w w' : World} {B g m rb db : Nat} {y mo d : Int}
theorem Ds.alloc (h : Ds w0 w B g m rb db y mo d) (x : Obj) : Ds w0 (w.alloc x) B g m rb db y mo d := ⟨h.D.alloc x, h.R.alloc x, h.T.alloc x, only_alloc h.G x, h.h0, h.h1, h.h2⟩
theorem Ds.pick (h : Ds w0 w B g m rb db y mo d) {m' : Nat} (hr : Rd B w' g m') (hg : w.grownBy w' (some g)) : Ds w0 w' B g m' rb db y mo d :=
  have a0 := h.h0; have a1 := h.h1
  ⟨h.D.grown' hg (by omega), h.R.grown' hg (by omega), hr, only_trans h.G hg, h.h0, h.h1, h.h2⟩
theorem Ds.more (h : Ds w0 w B g m rb db y mo d) {m' : Nat} (hm : m ≤ m') : Ds w0 w B g m' rb db y mo d := ⟨h.D, h.R, h.T.more hm, h.G, h.h0, h.h1, h.h2⟩
theorem Ds.mon (h : Ds w0 w B g m rb db y mo d) (z : Int) : Ds w0 (w.setCell ⟨db, 1, none⟩ (.int .i64 z)) B g m rb db y z d :=
  have a0 := h.h0; have a1 := h.h1; have a2 := h.h2
  ⟨h.D.set_ 1 _, h.R.far (p := ⟨db, 1, none⟩) (show rb ≠ db by omega) _, h.T.setCell (show g < db by omega) _, only_setCell h.G (.inr (show w0.heap.size ≤ db by omega)) _, h.h0, h.h1, h.h2⟩
theorem Ds.day (h : Ds w0 w B g m rb db y mo d) (z : Int) : Ds w0 (w.setCell ⟨db, 2, none⟩ (.int .i64 z)) B g m rb db y mo z :=
  have a0 := h.h0; have a1 := h.h1; have a2 := h.h2
  ⟨h.D.set_ 2 _, h.R.far (p := ⟨db, 2, none⟩) (show rb ≠ db by omega) _, h.T.setCell (show g < db by omega) _, only_setCell h.G (.inr (show w0.heap.size ≤ db by omega)) _, h.h0, h.h1, h.h2⟩
theorem Ds.cs (h : Ds w0 w B g m rb db y mo d) : w.cell? ⟨db, 0, none⟩ = some (.int .i64 y) ∧ w.cell? ⟨db, 1, none⟩ = some (.int .i64 mo) ∧ w.cell? ⟨db, 2, none⟩ = some (.int .i64 d) := ⟨h.D.cell 0, h.D.cell 1, h.D.cell 2⟩
theorem Ds.rs (h : Ds w0 w B g m rb db y mo d) : w.cell? ⟨rb, 0, none⟩ = some (.int .i64 0) ∧ w.cell? ⟨rb, 1, none⟩ = some (.int .i64 0) ∧ w.cell? ⟨rb, 2, none⟩ = some (.int .i64 0) := ⟨h.R.cell 0, h.R.cell 1, h.R.cell 2⟩
end
/-- A date that a reader drew. -/
def DrawnD (B g m k : Nat) (w : World) (e : Ending) (w' : World) : Prop :=
  ∃ y mo d : Int, e = .returned (.agg #[.int .i64 y, .int .i64 mo, .int .i64 d]) ∧ Rd B w' g (m + k) ∧ w.grownBy w' (some g)
theorem Ds.done {w0 w : World} {B g m m' db : Nat} {y mo d : Int} {e : Ending} (h : Ds w0 w B g m' w0.heap.size db y mo d) (hm : m' ≤ m + 9) (he : e = .returned (.agg #[.int .i64 y, .int .i64 mo, .int .i64 d])) :
    DrawnD B g m 9 w0 e (((w.setCell ⟨w0.heap.size, 0, none⟩ (.int .i64 y)).setCell ⟨w0.heap.size, 1, none⟩ (.int .i64 mo)).setCell ⟨w0.heap.size, 2, none⟩ (.int .i64 d)) :=
  ⟨y, mo, d, he, (((h.T.more hm).setCell (a := ⟨w0.heap.size, 0, none⟩) h.h0 _).setCell (a := ⟨w0.heap.size, 1, none⟩) h.h0 _).setCell (a := ⟨w0.heap.size, 2, none⟩) h.h0 _,
    only_setCell (only_setCell (only_setCell h.G (.inr (Nat.le_refl _)) _) (.inr (Nat.le_refl _)) _) (.inr (Nat.le_refl _)) _⟩

set_option maxHeartbeats 4000000 in
theorem l91Date_any {B g m : Nat} {w : World} (hr : Rd B w g m) (hm : m ≤ 90000) :
    Calls Tryd.prog 63 #[.pointer (some ⟨g, 0, none⟩)] w (DrawnD B g m 9 w) := by
  have hgl := hr.lt
  have R0 := Blk.new w 24 #[.int .i64 0, .int .i64 0, .int .i64 0]
  have G0 := only_alloc (only_refl w (some g)) (.cells #[.int .i64 0, .int .i64 0, .int .i64 0] 24)
  go_enter Tryd.func63, Tryd.ntmps63
  go_wp2_with fail
  refine (l91Year_any (hr.alloc _) (by omega)).mono ?_
  rintro e w1 ⟨v1, a1, b1, rfl, hr1, hg1⟩
  have R1 := R0.grown' hg1 (by omega)
  have G1 := only_trans G0 hg1
  clear R0 G0
  go_wp2_with fail
  refine (pick_any hr1 (by omega) (by omega)).mono ?_
  rintro e w2 ⟨v2, a2, b2, rfl, hr2, hg2⟩
  have R2 := R1.grown' hg2 (by omega)
  have G2 := only_trans G1 hg2
  clear R1 G1
  go_wp2_with fail
  refine (pick_any hr2 (by omega) (by omega)).mono ?_
  rintro e w3 ⟨v3, a3, b3, rfl, hr3, hg3⟩
  have R3 := R2.grown' hg3 (by omega)
  have G3 := only_trans G2 hg3
  have hgs := G3.size
  have hrl := R3.lt
  have S3 := hide (show Ds w (w3.alloc (.cells #[.int .i64 v1, .int .i64 (1 + v2), .int .i64 (1 + v3)] 24)) B g (m + 4) w.heap.size w3.heap.size v1 (1 + v2) (1 + v3) from
    ⟨Blk.new _ _ _, R3.alloc _, (hr3.alloc _).more (by omega), only_alloc G3 _, hgl, hrl, Nat.le_refl _⟩)
  clear R2 G2 R3 G3 hr1 hr2 hr3 hg1 hg2 hg3 hgs
  go_wp2_with fail
  refine (pick_any S3.out.T (by omega) (by omega)).mono ?_
  rintro e w4 ⟨v4, a4, b4, rfl, hr4, hg4⟩
  have S4 := hide (S3.out.pick hr4 hg4)
  clear hr4 hg4 S3
  obtain ⟨db, hdb⟩ : ∃ db, db = w3.heap.size := ⟨_, rfl⟩
  rw [← hdb] at S4 hrl ⊢
  clear hdb
  have hdl := S4.out.D.lt
  have hgl4 := S4.out.T.lt
  have h01 := S4.out.h0
  have h12 := S4.out.h1
  have f1 := S4.out.D.frozen 1
  have f2 := S4.out.D.frozen 2
  obtain ⟨c0, c1, c2⟩ := S4.out.cs
  by_cases h0 : v4 = 0
  · subst h0
    go_wp2_with fail
    refine (pick_any S4.out.T (by omega) (by omega)).mono ?_
    rintro e w5 ⟨v5, a5, b5, rfl, hr5, hg5⟩
    have S5 := hide (S4.out.pick hr5 hg5)
    obtain ⟨c0, c1, c2⟩ := S5.out.cs
    have f1 := S5.out.D.frozen 1
    have f2 := S5.out.D.frozen 2
    clear hr5 hg5 S4
    have S6 := hide ((S5.out.day (29 + v5)).more (show _ ≤ m + 7 by omega))
    go_wp2_with fail
    refine (pick_any S6.out.T (by omega) (by omega)).mono ?_
    rintro e w7 ⟨v7, a7, b7, rfl, hr7, hg7⟩
    have S7 := hide (S6.out.pick hr7 hg7)
    clear hr7 hg7 S6
    by_cases h7 : v7 = 0
    · subst h7
      go_wp2_with fail
      refine (pick_any S7.out.T (by omega) (by omega)).mono ?_
      rintro e w8 ⟨v8, a8, b8, rfl, hr8, hg8⟩
      have S8 := hide (S7.out.pick hr8 hg8)
      clear hr8 hg8 S7
      have S9 := hide (S8.out.mon (v8 - 1))
      have f1 := S8.out.D.frozen 1
      obtain ⟨c0, c1, c2⟩ := S8.out.cs
      obtain ⟨d0, d1, d2⟩ := S9.out.cs
      obtain ⟨r0, r1, r2⟩ := S9.out.rs
      have rf0 := S9.out.R.frozen 0
      have rf1 := S9.out.R.frozen 1
      have rf2 := S9.out.R.frozen 2
      go_wp2_with fail
      have RR := ((S9.out.R.set_ 0 (.int .i64 v1)).set_ 1 (.int .i64 (v8 - 1))).set_ 2 (.int .i64 (29 + v5))
      have q0 := RR.cell 0
      have q1 := RR.cell 1
      have q2 := RR.cell 2
      simp at q0 q1 q2
      refine bodyPost_ret (by simp [results, Tryd.results63, go_sem, q0, q1, q2]; try rfl) rfl ?_
      exact S9.out.done (by omega) rfl
    · have g7 : (v7 == 0) = false := beq_eq_false_iff_ne.2 h7
      obtain ⟨d0, d1, d2⟩ := S7.out.cs
      obtain ⟨r0, r1, r2⟩ := S7.out.rs
      have rf0 := S7.out.R.frozen 0
      have rf1 := S7.out.R.frozen 1
      have rf2 := S7.out.R.frozen 2
      go_wp2_with fail
      have RR := ((S7.out.R.set_ 0 (.int .i64 v1)).set_ 1 (.int .i64 (1 + v2))).set_ 2 (.int .i64 (29 + v5))
      have q0 := RR.cell 0
      have q1 := RR.cell 1
      have q2 := RR.cell 2
      simp at q0 q1 q2
      refine bodyPost_ret (by simp [results, Tryd.results63, go_sem, q0, q1, q2]; try rfl) rfl ?_
      exact S7.out.done (by omega) rfl
  · have g0 : (v4 == 0) = false := beq_eq_false_iff_ne.2 h0
    by_cases h1 : v4 = 1
    · subst h1
      go_wp2_with fail
      refine (pick_any (S4.out.T.alloc _) (by omega) (by omega)).mono ?_
      rintro e w5 ⟨v5, a5, b5, rfl, hr5, hg5⟩
      have hbl := (Blk.new w4 3 (([1, 12] : List Int).map (Value.int .i64)).toArray).grown' hg5 (by omega)
      have S5 := hide ((S4.out.alloc _).pick hr5 hg5)
      obtain ⟨k5, rfl⟩ := Int.eq_ofNat_of_zero_le a5
      have hk5 := int_at hbl k5 (by simp; omega)
      generalize ([1, 12] : List Int).getD k5 0 = n5 at hk5
      obtain ⟨c0, c1, c2⟩ := S5.out.cs
      have f1 := S5.out.D.frozen 1
      have f2 := S5.out.D.frozen 2
      have hz5 := hg5.size
      have hgl5 := S5.out.T.lt
      clear hr5 hg5 S4 hbl
      have S5' := hide (S5.out.mon n5)
      go_wp2_with fail
      refine (pick_any (S5'.out.T.alloc _) (by omega) (by omega)).mono ?_
      rintro e w6 ⟨v6, a6, b6, rfl, hr6, hg6⟩
      have hbl := (Blk.new (w5.setCell ⟨db, 1, none⟩ (.int .i64 n5)) 3 (([1, 2, 3, 28, 29, 30, 31] : List Int).map (Value.int .i64)).toArray).grown' hg6 (by simp; omega)
      have S6a := hide ((S5'.out.alloc _).pick hr6 hg6)
      obtain ⟨k6, rfl⟩ := Int.eq_ofNat_of_zero_le a6
      have hk6 := int_at hbl k6 (by simp; omega)
      generalize ([1, 2, 3, 28, 29, 30, 31] : List Int).getD k6 0 = n6 at hk6
      obtain ⟨c0, c1, c2⟩ := S6a.out.cs
      have f1 := S6a.out.D.frozen 1
      have f2 := S6a.out.D.frozen 2
      clear hr6 hg6 S5' hbl S5
      have S6 := hide ((S6a.out.day n6).more (show _ ≤ m + 7 by omega))
      simp at hk6
      go_wp2_with fail
      refine (pick_any S6.out.T (by omega) (by omega)).mono ?_
      rintro e w7 ⟨v7, a7, b7, rfl, hr7, hg7⟩
      have S7 := hide (S6.out.pick hr7 hg7)
      clear hr7 hg7 S6
      by_cases h7 : v7 = 0
      · subst h7
        go_wp2_with fail
        refine (pick_any S7.out.T (by omega) (by omega)).mono ?_
        rintro e w8 ⟨v8, a8, b8, rfl, hr8, hg8⟩
        have S8 := hide (S7.out.pick hr8 hg8)
        clear hr8 hg8 S7
        have S9 := hide (S8.out.mon (v8 - 1))
        have f1 := S8.out.D.frozen 1
        obtain ⟨c0, c1, c2⟩ := S8.out.cs
        obtain ⟨d0, d1, d2⟩ := S9.out.cs
        obtain ⟨r0, r1, r2⟩ := S9.out.rs
        have rf0 := S9.out.R.frozen 0
        have rf1 := S9.out.R.frozen 1
        have rf2 := S9.out.R.frozen 2
        go_wp2_with fail
        have RR := ((S9.out.R.set_ 0 (.int .i64 v1)).set_ 1 (.int .i64 (v8 - 1))).set_ 2 (.int .i64 n6)
        have q0 := RR.cell 0
        have q1 := RR.cell 1
        have q2 := RR.cell 2
        simp at q0 q1 q2
        refine bodyPost_ret (by simp [results, Tryd.results63, go_sem, q0, q1, q2]; try rfl) rfl ?_
        exact S9.out.done (by omega) rfl
      · have g7 : (v7 == 0) = false := beq_eq_false_iff_ne.2 h7
        obtain ⟨d0, d1, d2⟩ := S7.out.cs
        obtain ⟨r0, r1, r2⟩ := S7.out.rs
        have rf0 := S7.out.R.frozen 0
        have rf1 := S7.out.R.frozen 1
        have rf2 := S7.out.R.frozen 2
        go_wp2_with fail
        have RR := ((S7.out.R.set_ 0 (.int .i64 v1)).set_ 1 (.int .i64 n5)).set_ 2 (.int .i64 n6)
        have q0 := RR.cell 0
        have q1 := RR.cell 1
        have q2 := RR.cell 2
        simp at q0 q1 q2
        refine bodyPost_ret (by simp [results, Tryd.results63, go_sem, q0, q1, q2]; try rfl) rfl ?_
        exact S7.out.done (by omega) rfl
    · have g1 : (v4 == 1) = false := beq_eq_false_iff_ne.2 h1
      by_cases h2 : v4 = 2
      · subst h2
        have S4' := hide (S4.out.mon 2)
        go_wp2_with fail
        refine (pick_any S4'.out.T (by omega) (by omega)).mono ?_
        rintro e w5 ⟨v5, a5, b5, rfl, hr5, hg5⟩
        have S5 := hide (S4'.out.pick hr5 hg5)
        obtain ⟨c0, c1, c2⟩ := S5.out.cs
        have f1 := S5.out.D.frozen 1
        have f2 := S5.out.D.frozen 2
        clear hr5 hg5 S4 S4'
        have S6 := hide ((S5.out.day (28 + v5)).more (show _ ≤ m + 7 by omega))
        go_wp2_with fail
        refine (pick_any S6.out.T (by omega) (by omega)).mono ?_
        rintro e w7 ⟨v7, a7, b7, rfl, hr7, hg7⟩
        have S7 := hide (S6.out.pick hr7 hg7)
        clear hr7 hg7 S6
        by_cases h7 : v7 = 0
        · subst h7
          go_wp2_with fail
          refine (pick_any S7.out.T (by omega) (by omega)).mono ?_
          rintro e w8 ⟨v8, a8, b8, rfl, hr8, hg8⟩
          have S8 := hide (S7.out.pick hr8 hg8)
          clear hr8 hg8 S7
          have S9 := hide (S8.out.mon (v8 - 1))
          have f1 := S8.out.D.frozen 1
          obtain ⟨c0, c1, c2⟩ := S8.out.cs
          obtain ⟨d0, d1, d2⟩ := S9.out.cs
          obtain ⟨r0, r1, r2⟩ := S9.out.rs
          have rf0 := S9.out.R.frozen 0
          have rf1 := S9.out.R.frozen 1
          have rf2 := S9.out.R.frozen 2
          go_wp2_with fail
          have RR := ((S9.out.R.set_ 0 (.int .i64 v1)).set_ 1 (.int .i64 (v8 - 1))).set_ 2 (.int .i64 (28 + v5))
          have q0 := RR.cell 0
          have q1 := RR.cell 1
          have q2 := RR.cell 2
          simp at q0 q1 q2
          refine bodyPost_ret (by simp [results, Tryd.results63, go_sem, q0, q1, q2]; try rfl) rfl ?_
          exact S9.out.done (by omega) rfl
        · have g7 : (v7 == 0) = false := beq_eq_false_iff_ne.2 h7
          obtain ⟨d0, d1, d2⟩ := S7.out.cs
          obtain ⟨r0, r1, r2⟩ := S7.out.rs
          have rf0 := S7.out.R.frozen 0
          have rf1 := S7.out.R.frozen 1
          have rf2 := S7.out.R.frozen 2
          go_wp2_with fail
          have RR := ((S7.out.R.set_ 0 (.int .i64 v1)).set_ 1 (.int .i64 2)).set_ 2 (.int .i64 (28 + v5))
          have q0 := RR.cell 0
          have q1 := RR.cell 1
          have q2 := RR.cell 2
          simp at q0 q1 q2
          refine bodyPost_ret (by simp [results, Tryd.results63, go_sem, q0, q1, q2]; try rfl) rfl ?_
          exact S7.out.done (by omega) rfl
      · have g2 : (v4 == 2) = false := beq_eq_false_iff_ne.2 h2
        have S6 := hide (S4.out.more (show _ ≤ m + 7 by omega))
        go_wp2_with fail
        refine (pick_any S6.out.T (by omega) (by omega)).mono ?_
        rintro e w7 ⟨v7, a7, b7, rfl, hr7, hg7⟩
        have S7 := hide (S6.out.pick hr7 hg7)
        clear hr7 hg7 S6
        by_cases h7 : v7 = 0
        · subst h7
          go_wp2_with fail
          refine (pick_any S7.out.T (by omega) (by omega)).mono ?_
          rintro e w8 ⟨v8, a8, b8, rfl, hr8, hg8⟩
          have S8 := hide (S7.out.pick hr8 hg8)
          clear hr8 hg8 S7
          have S9 := hide (S8.out.mon (v8 - 1))
          have f1 := S8.out.D.frozen 1
          obtain ⟨c0, c1, c2⟩ := S8.out.cs
          obtain ⟨d0, d1, d2⟩ := S9.out.cs
          obtain ⟨r0, r1, r2⟩ := S9.out.rs
          have rf0 := S9.out.R.frozen 0
          have rf1 := S9.out.R.frozen 1
          have rf2 := S9.out.R.frozen 2
          go_wp2_with fail
          have RR := ((S9.out.R.set_ 0 (.int .i64 v1)).set_ 1 (.int .i64 (v8 - 1))).set_ 2 (.int .i64 (1 + v3))
          have q0 := RR.cell 0
          have q1 := RR.cell 1
          have q2 := RR.cell 2
          simp at q0 q1 q2
          refine bodyPost_ret (by simp [results, Tryd.results63, go_sem, q0, q1, q2]; try rfl) rfl ?_
          exact S9.out.done (by omega) rfl
        · have g7 : (v7 == 0) = false := beq_eq_false_iff_ne.2 h7
          obtain ⟨d0, d1, d2⟩ := S7.out.cs
          obtain ⟨r0, r1, r2⟩ := S7.out.rs
          have rf0 := S7.out.R.frozen 0
          have rf1 := S7.out.R.frozen 1
          have rf2 := S7.out.R.frozen 2
          go_wp2_with fail
          have RR := ((S7.out.R.set_ 0 (.int .i64 v1)).set_ 1 (.int .i64 (1 + v2))).set_ 2 (.int .i64 (1 + v3))
          have q0 := RR.cell 0
          have q1 := RR.cell 1
          have q2 := RR.cell 2
          simp at q0 q1 q2
          refine bodyPost_ret (by simp [results, Tryd.results63, go_sem, q0, q1, q2]; try rfl) rfl ?_
          exact S7.out.done (by omega) rfl
end Go.Proofs.YtinemkjoohgmjaaDoor
