/- Draws: two stamps. -/
import Derived.Test.YtinemkjoohgmjaaDoorDrG
import Derived.Test.YtinemkjoohgmjaaDoorSp2
import Derived.Test.YtinemkjoohgmjaaDoorSt2
namespace Go.Proofs.YtinemkjoohgmjaaDoor
open Go.RowKit

/-- Two stamps, by a reader. -/
def DrawnTw (B g m k : Nat) (w : World) (e : Ending) (w' : World) : Prop :=
  ∃ a b : S8, e = .returned (.tuple #[.agg a.v, .agg b.v]) ∧ Rd B w' g (m + k) ∧ w.grownBy w' (some g)
theorem sp_far {w : World} {g k : Nat} (c : Array Value) (nn : g ≠ k) (h : Sp w g) : Sp (w.setRow k c) g := by
  obtain ⟨q, hq, h⟩ := h
  exact ⟨q, hq, h.setRow_far nn c⟩
section
attribute [local go_sem] sp_far cell_sp sp_alloc sp_drew sp_new storeP_sp
attribute [local go_sem ↓] storeP_eq
set_option maxRecDepth 100000 in
set_option maxHeartbeats 4000000 in
theorem l91Two_any {B g m : Nat} {w : World} (hr : Rd B w g m) (hm : m ≤ 60000) :
    Calls Tryd.prog 17 #[.pointer (some ⟨g, 0, none⟩)] w (DrawnTw B g m 70 w) := by
  have hgl := hr.lt
  have P1 := hide ((Blk.new w 28 #[.int .i64 0, .int .i64 0, .int .i64 0, .int .i64 0, .int .i64 0, .int .i64 0, .int .i64 0, .int .i64 0]).alloc (.cells #[.int .i64 0, .int .i64 0, .int .i64 0, .int .i64 0, .int .i64 0, .int .i64 0, .int .i64 0, .int .i64 0] 28))
  have P2 := hide (Blk.newE (W := w.alloc (.cells #[.int .i64 0, .int .i64 0, .int .i64 0, .int .i64 0, .int .i64 0, .int .i64 0, .int .i64 0, .int .i64 0] 28)) (g := w.heap.size + 1) (t := 28) (cs := #[.int .i64 0, .int .i64 0, .int .i64 0, .int .i64 0, .int .i64 0, .int .i64 0, .int .i64 0, .int .i64 0]) (by simp))
  have G := hide (only_alloc (only_alloc (only_refl w (some g)) (.cells #[.int .i64 0, .int .i64 0, .int .i64 0, .int .i64 0, .int .i64 0, .int .i64 0, .int .i64 0, .int .i64 0] 28)) (.cells #[.int .i64 0, .int .i64 0, .int .i64 0, .int .i64 0, .int .i64 0, .int .i64 0, .int .i64 0, .int .i64 0] 28))
  have T := hide ((hr.alloc (.cells #[.int .i64 0, .int .i64 0, .int .i64 0, .int .i64 0, .int .i64 0, .int .i64 0, .int .i64 0, .int .i64 0] 28)).alloc (.cells #[.int .i64 0, .int .i64 0, .int .i64 0, .int .i64 0, .int .i64 0, .int .i64 0, .int .i64 0, .int .i64 0] 28))
  go_enter Tryd.func17, Tryd.ntmps17
  go_wp2_with fail
  refine (l91Sound_any T.out (by omega)).mono ?_
  rintro e w1 ⟨⟨ya, moa, da, ha, mia, sa, msa, oa⟩, hka, rfl, hr1, hg1⟩
  simp only [S8.v]
  have hl1 := (P2.out.grown' hg1 (by omega)).lt
  have hgl1 := hr1.lt
  have HKA := hide hka
  have Q1 := hide (((P1.out.grown' hg1 (by omega)).alloc (.cells #[.int .i64 0, .int .i64 0, .int .i64 0, .int .i64 0, .int .i64 0, .int .i64 0, .int .i64 0, .int .i64 0] 28)).setRow_far (k := w1.heap.size) (by omega) #[.int .i64 ya, .int .i64 moa, .int .i64 da, .int .i64 ha, .int .i64 mia, .int .i64 sa, .int .i64 msa, .int .i64 oa])
  have Q2 := hide (((P2.out.grown' hg1 (by omega)).alloc (.cells #[.int .i64 0, .int .i64 0, .int .i64 0, .int .i64 0, .int .i64 0, .int .i64 0, .int .i64 0, .int .i64 0] 28)).setRow_far (k := w1.heap.size) (by omega) #[.int .i64 ya, .int .i64 moa, .int .i64 da, .int .i64 ha, .int .i64 mia, .int .i64 sa, .int .i64 msa, .int .i64 oa])
  have XA := hide ((Blk.new w1 28 #[.int .i64 0, .int .i64 0, .int .i64 0, .int .i64 0, .int .i64 0, .int .i64 0, .int .i64 0, .int .i64 0]).setRow #[.int .i64 ya, .int .i64 moa, .int .i64 da, .int .i64 ha, .int .i64 mia, .int .i64 sa, .int .i64 msa, .int .i64 oa])
  replace G := hide (Blk.onlyRow (only_alloc (only_trans G.out hg1) (.cells #[.int .i64 0, .int .i64 0, .int .i64 0, .int .i64 0, .int .i64 0, .int .i64 0, .int .i64 0, .int .i64 0] 28)) (g := w1.heap.size) (by omega) #[.int .i64 ya, .int .i64 moa, .int .i64 da, .int .i64 ha, .int .i64 mia, .int .i64 sa, .int .i64 msa, .int .i64 oa])
  replace T := hide (Rd.setRow (hr1.alloc (.cells #[.int .i64 0, .int .i64 0, .int .i64 0, .int .i64 0, .int .i64 0, .int .i64 0, .int .i64 0, .int .i64 0] 28)) (k := w1.heap.size) hgl1 #[.int .i64 ya, .int .i64 moa, .int .i64 da, .int .i64 ha, .int .i64 mia, .int .i64 sa, .int .i64 msa, .int .i64 oa])
  clear P1 P2 hg1 hr1 hka
  go_wp2_with fail
  refine (pick_any T.out (by omega) (by omega)).mono ?_
  rintro e w2 ⟨v2, a2, b2, rfl, hr2, hg2⟩
  replace Q1 := hide (Q1.out.grown' hg2 (by omega))
  replace Q2 := hide (Q2.out.grown' hg2 (by omega))
  replace XA := hide (XA.out.grown' hg2 (by omega))
  replace G := hide (only_trans G.out hg2)
  replace T := hide hr2
  clear hr2 hg2
  obtain ⟨a0, a1, a2, a3, a4, a5, a6, a7⟩ := st8 XA.out
  have hspA := Q1.out.sp rfl
  have hspB := Q2.out.sp rfl
  by_cases z : v2 = 0
  · subst z
    have ht := T.out
    have hq1 := Q1.out
    have hq2 := Q2.out
    have hxa := XA.out
    have hgg := G.out
    go_wp2_with fail
    go_region_with (first | (go_simp; go_at_call 39; (first | (with_reducible refine (l91Stamp_any (Rd.drew ht) (by omega)).mono ?_) | (with_reducible refine (l91Stamp_any (Rd.setRow (Rd.drew ht) (by omega) _) (by omega)).mono ?_)); rintro e w3 ⟨⟨yb, mob, db, hb, mib, sb, msb, ob⟩, rfl, hr3, hg3⟩; simp only [S8.v]; (first | (have X3 := hide ((hxa.drew).grown' hg3 (by omega)); have R3 := hide (hq1.drew.grown' hg3 (by omega)); have S3 := hide (hq2.drew.grown' hg3 (by omega)); have G3 := hide (only_trans (only_drew hgg) hg3)) | (have X3 := hide ((hxa.drew.setRow_far (by omega) _).grown' hg3 (by omega)); have R3 := hide ((hq1.drew.setRow _).grown' hg3 (by omega)); have S3 := hide ((hq2.drew.setRow_far (by omega) _).grown' hg3 (by omega)); have G3 := hide (only_trans (Blk.onlyRow (only_drew hgg) (by omega) _) hg3))); obtain ⟨q0, q1, q2, q3, q4, q5, q6, q7⟩ := st8 X3.out; have hsp3 := R3.out.sp rfl; have hsp4 := S3.out.sp rfl))

    all_goals
      go_wp2_with fail
      first
        | (obtain ⟨u0, u1, u2, u3, u4, u5, u6, u7⟩ := st8 ((R3.out.setRow #[.int .i64 ya, .int .i64 moa, .int .i64 da, .int .i64 ha, .int .i64 mia, .int .i64 sa, .int .i64 msa, .int .i64 oa]).setRow_far (k := w.heap.size + 1) (by omega) #[.int .i64 yb, .int .i64 mob, .int .i64 db, .int .i64 hb, .int .i64 mib, .int .i64 sb, .int .i64 msb, .int .i64 ob]); obtain ⟨t0, t1, t2, t3, t4, t5, t6, t7⟩ := st8 ((S3.out.setRow_far (k := w.heap.size) (by omega) #[.int .i64 ya, .int .i64 moa, .int .i64 da, .int .i64 ha, .int .i64 mia, .int .i64 sa, .int .i64 msa, .int .i64 oa]).setRow #[.int .i64 yb, .int .i64 mob, .int .i64 db, .int .i64 hb, .int .i64 mib, .int .i64 sb, .int .i64 msb, .int .i64 ob]); refine bodyPost_ret (v := .tuple #[.agg #[.int .i64 ya, .int .i64 moa, .int .i64 da, .int .i64 ha, .int .i64 mia, .int .i64 sa, .int .i64 msa, .int .i64 oa], .agg #[.int .i64 yb, .int .i64 mob, .int .i64 db, .int .i64 hb, .int .i64 mib, .int .i64 sb, .int .i64 msb, .int .i64 ob]]) (by first | (simp [results, Tryd.results17, go_sem, u0, u1, u2, u3, u4, u5, u6, u7, t0, t1, t2, t3, t4, t5, t6, t7]; done) | fail) rfl ?_; exact ⟨⟨ya, moa, da, ha, mia, sa, msa, oa⟩, ⟨yb, mob, db, hb, mib, sb, msb, ob⟩, rfl, Rd.setRow (Rd.setRow (hr3.more (by omega)) (k := w.heap.size) (by omega) _) (k := w.heap.size + 1) (by omega) _, Blk.onlyRow (Blk.onlyRow G3.out (g := w.heap.size) (by omega) _) (g := w.heap.size + 1) (by omega) _⟩)
        | (obtain ⟨u0, u1, u2, u3, u4, u5, u6, u7⟩ := st8 (R3.out.setRow_far (k := w.heap.size + 1) (by omega) #[.int .i64 yb, .int .i64 mob, .int .i64 db, .int .i64 hb, .int .i64 mib, .int .i64 sb, .int .i64 msb, .int .i64 ob]); obtain ⟨t0, t1, t2, t3, t4, t5, t6, t7⟩ := st8 (S3.out.setRow #[.int .i64 yb, .int .i64 mob, .int .i64 db, .int .i64 hb, .int .i64 mib, .int .i64 sb, .int .i64 msb, .int .i64 ob]); refine bodyPost_ret (v := .tuple #[.agg #[.int .i64 ya, .int .i64 moa, .int .i64 da, .int .i64 ha, .int .i64 mia, .int .i64 sa, .int .i64 msa, .int .i64 oa], .agg #[.int .i64 yb, .int .i64 mob, .int .i64 db, .int .i64 hb, .int .i64 mib, .int .i64 sb, .int .i64 msb, .int .i64 ob]]) (by first | (simp [results, Tryd.results17, go_sem, u0, u1, u2, u3, u4, u5, u6, u7, t0, t1, t2, t3, t4, t5, t6, t7]; done) | fail) rfl ?_; exact ⟨⟨ya, moa, da, ha, mia, sa, msa, oa⟩, ⟨yb, mob, db, hb, mib, sb, msb, ob⟩, rfl, Rd.setRow (hr3.more (by omega)) (k := w.heap.size + 1) (by omega) _, Blk.onlyRow G3.out (g := w.heap.size + 1) (by omega) _⟩)
        | (obtain ⟨u0, u1, u2, u3, u4, u5, u6, u7⟩ := st8 ((R3.out.setRow_far (k := w.heap.size + 1) (by omega) #[.int .i64 yb, .int .i64 mob, .int .i64 db, .int .i64 hb, .int .i64 mib, .int .i64 sb, .int .i64 msb, .int .i64 ob]).setRow #[.int .i64 ya, .int .i64 moa, .int .i64 da, .int .i64 ha, .int .i64 mia, .int .i64 sa, .int .i64 msa, .int .i64 oa]); obtain ⟨t0, t1, t2, t3, t4, t5, t6, t7⟩ := st8 ((S3.out.setRow #[.int .i64 yb, .int .i64 mob, .int .i64 db, .int .i64 hb, .int .i64 mib, .int .i64 sb, .int .i64 msb, .int .i64 ob]).setRow_far (k := w.heap.size) (by omega) #[.int .i64 ya, .int .i64 moa, .int .i64 da, .int .i64 ha, .int .i64 mia, .int .i64 sa, .int .i64 msa, .int .i64 oa]); refine bodyPost_ret (v := .tuple #[.agg #[.int .i64 ya, .int .i64 moa, .int .i64 da, .int .i64 ha, .int .i64 mia, .int .i64 sa, .int .i64 msa, .int .i64 oa], .agg #[.int .i64 yb, .int .i64 mob, .int .i64 db, .int .i64 hb, .int .i64 mib, .int .i64 sb, .int .i64 msb, .int .i64 ob]]) (by first | (simp [results, Tryd.results17, go_sem, u0, u1, u2, u3, u4, u5, u6, u7, t0, t1, t2, t3, t4, t5, t6, t7]; done) | fail) rfl ?_; exact ⟨⟨ya, moa, da, ha, mia, sa, msa, oa⟩, ⟨yb, mob, db, hb, mib, sb, msb, ob⟩, rfl, Rd.setRow (Rd.setRow (hr3.more (by omega)) (k := w.heap.size + 1) (by omega) _) (k := w.heap.size) (by omega) _, Blk.onlyRow (Blk.onlyRow G3.out (g := w.heap.size + 1) (by omega) _) (g := w.heap.size) (by omega) _⟩)
  · have z0 : (v2 == 0) = false := beq_eq_false_iff_ne.2 z
    go_wp2_with fail
    refine (spec_l12i ⟨ya, moa, da, ha, mia, sa, msa, oa⟩ _ HKA.out).mono ?_
    rintro e w3 ⟨rfl, hb3⟩
    replace Q1 := hide (Q1.out.below hb3 Q1.out.lt)
    replace Q2 := hide (Q2.out.below hb3 Q2.out.lt)
    replace XA := hide (XA.out.below hb3 XA.out.lt)
    replace G := hide (only_below G.out hb3)
    have htl := T.out.lt
    replace T := hide (T.out.below hb3 htl)
    clear a0 a1 a2 a3 a4 a5 a6 a7 hb3 hspA hspB htl
    generalize S8.ins ⟨ya, moa, da, ha, mia, sa, msa, oa⟩ = na
    go_wp2_with fail
    refine (pick_any T.out (by omega) (by omega)).mono ?_
    rintro e w4 ⟨v4, a4, b4, rfl, hr4, hg4⟩
    go_wp2_with fail
    refine (pick_any hr4 (by omega) (by omega)).mono ?_
    rintro e w5 ⟨v5, a5, b5, rfl, hr5, hg5⟩
    go_wp2_with fail
    refine (l91Offset_any hr5 (by omega)).mono ?_
    rintro e w6 ⟨v6, a6, b6, rfl, hr6, hg6⟩
    go_wp2_with fail
    refine (spec_stampAt _ _ _).mono ?_
    rintro e w7 ⟨rfl, hb7⟩
    generalize stAt _ _ = sq
    obtain ⟨⟨yb, mob, db, hb, mib, sb, msb, ob⟩, okb⟩ := sq
    simp only [S8.v]
    have hgg := only_trans (only_trans hg4 hg5) hg6
    have K1 := Q1.out.grown' hgg (by omega)
    have K2 := Q2.out.grown' hgg (by omega)
    have KA := XA.out.grown' hgg (by omega)
    have hl7 := (K2.below hb7 K2.lt).lt
    have hgl7 := hr6.lt
    have hr7 := hr6.below hb7 hgl7
    have hg7 := hr7.lt
    have hxl7 := (KA.below hb7 KA.lt).lt
    replace Q1 := hide (((K1.below hb7 K1.lt).alloc (.cells #[.int .i64 0, .int .i64 0, .int .i64 0, .int .i64 0, .int .i64 0, .int .i64 0, .int .i64 0, .int .i64 0] 28)).setRow_far (k := w7.heap.size) (by omega) #[.int .i64 yb, .int .i64 mob, .int .i64 db, .int .i64 hb, .int .i64 mib, .int .i64 sb, .int .i64 msb, .int .i64 ob])
    replace Q2 := hide (((K2.below hb7 K2.lt).alloc (.cells #[.int .i64 0, .int .i64 0, .int .i64 0, .int .i64 0, .int .i64 0, .int .i64 0, .int .i64 0, .int .i64 0] 28)).setRow_far (k := w7.heap.size) (by omega) #[.int .i64 yb, .int .i64 mob, .int .i64 db, .int .i64 hb, .int .i64 mib, .int .i64 sb, .int .i64 msb, .int .i64 ob])
    replace XA := hide (((KA.below hb7 KA.lt).alloc (.cells #[.int .i64 0, .int .i64 0, .int .i64 0, .int .i64 0, .int .i64 0, .int .i64 0, .int .i64 0, .int .i64 0] 28)).setRow_far (k := w7.heap.size) (by omega) #[.int .i64 yb, .int .i64 mob, .int .i64 db, .int .i64 hb, .int .i64 mib, .int .i64 sb, .int .i64 msb, .int .i64 ob])
    have XB := hide ((Blk.new w7 28 #[.int .i64 0, .int .i64 0, .int .i64 0, .int .i64 0, .int .i64 0, .int .i64 0, .int .i64 0, .int .i64 0]).setRow #[.int .i64 yb, .int .i64 mob, .int .i64 db, .int .i64 hb, .int .i64 mib, .int .i64 sb, .int .i64 msb, .int .i64 ob])
    replace G := hide (Blk.onlyRow (only_alloc (only_below (only_trans G.out hgg) hb7) (.cells #[.int .i64 0, .int .i64 0, .int .i64 0, .int .i64 0, .int .i64 0, .int .i64 0, .int .i64 0, .int .i64 0] 28)) (g := w7.heap.size) (by omega) #[.int .i64 yb, .int .i64 mob, .int .i64 db, .int .i64 hb, .int .i64 mib, .int .i64 sb, .int .i64 msb, .int .i64 ob])
    replace T := hide (Rd.setRow (hr7.alloc (.cells #[.int .i64 0, .int .i64 0, .int .i64 0, .int .i64 0, .int .i64 0, .int .i64 0, .int .i64 0, .int .i64 0] 28)) (k := w7.heap.size) hg7 #[.int .i64 yb, .int .i64 mob, .int .i64 db, .int .i64 hb, .int .i64 mib, .int .i64 sb, .int .i64 msb, .int .i64 ob])
    clear hg4 hg5 hg6 hr4 hr5 hr6 hr7 hb7 hgg K1 K2 KA
    cases okb with
    | true =>
      go_wp2_with fail
      generalize (w7.alloc (.cells #[.int .i64 0, .int .i64 0, .int .i64 0, .int .i64 0, .int .i64 0, .int .i64 0, .int .i64 0, .int .i64 0] 28)).setRow w7.heap.size #[.int .i64 yb, .int .i64 mob, .int .i64 db, .int .i64 hb, .int .i64 mib, .int .i64 sb, .int .i64 msb, .int .i64 ob] = w8 at *
      obtain ⟨a0, a1, a2, a3, a4, a5, a6, a7⟩ := st8 XA.out
      obtain ⟨b0, b1, b2, b3, b4, b5, b6, b7⟩ := st8 XB.out
      have hspA := Q1.out.sp rfl
      have hspB := Q2.out.sp rfl
      have hspA' := sp_drew hspA
      have hspB' := sp_drew hspB
      have XB' := XB.out.drew.setRow_far (k := w.heap.size) (by omega) #[.int .i64 ya, .int .i64 moa, .int .i64 da, .int .i64 ha, .int .i64 mia, .int .i64 sa, .int .i64 msa, .int .i64 oa]
      obtain ⟨c0, c1, c2, c3, c4, c5, c6, c7⟩ := st8 XB'
      clear XB'
      go_region
      all_goals
        have R3 := hide Q1.out.drew; have S3 := hide Q2.out.drew; have G3 := hide (only_drew G.out); have hr3 := T.out.drew
        go_wp2_with fail
        first
          | (obtain ⟨u0, u1, u2, u3, u4, u5, u6, u7⟩ := st8 ((R3.out.setRow #[.int .i64 ya, .int .i64 moa, .int .i64 da, .int .i64 ha, .int .i64 mia, .int .i64 sa, .int .i64 msa, .int .i64 oa]).setRow_far (k := w.heap.size + 1) (by omega) #[.int .i64 yb, .int .i64 mob, .int .i64 db, .int .i64 hb, .int .i64 mib, .int .i64 sb, .int .i64 msb, .int .i64 ob]); obtain ⟨t0, t1, t2, t3, t4, t5, t6, t7⟩ := st8 ((S3.out.setRow_far (k := w.heap.size) (by omega) #[.int .i64 ya, .int .i64 moa, .int .i64 da, .int .i64 ha, .int .i64 mia, .int .i64 sa, .int .i64 msa, .int .i64 oa]).setRow #[.int .i64 yb, .int .i64 mob, .int .i64 db, .int .i64 hb, .int .i64 mib, .int .i64 sb, .int .i64 msb, .int .i64 ob]); refine bodyPost_ret (v := .tuple #[.agg #[.int .i64 ya, .int .i64 moa, .int .i64 da, .int .i64 ha, .int .i64 mia, .int .i64 sa, .int .i64 msa, .int .i64 oa], .agg #[.int .i64 yb, .int .i64 mob, .int .i64 db, .int .i64 hb, .int .i64 mib, .int .i64 sb, .int .i64 msb, .int .i64 ob]]) (by first | (simp [results, Tryd.results17, go_sem, u0, u1, u2, u3, u4, u5, u6, u7, t0, t1, t2, t3, t4, t5, t6, t7]; done) | fail) rfl ?_; exact ⟨⟨ya, moa, da, ha, mia, sa, msa, oa⟩, ⟨yb, mob, db, hb, mib, sb, msb, ob⟩, rfl, Rd.setRow (Rd.setRow (hr3.more (by omega)) (k := w.heap.size) (by omega) _) (k := w.heap.size + 1) (by omega) _, Blk.onlyRow (Blk.onlyRow G3.out (g := w.heap.size) (by omega) _) (g := w.heap.size + 1) (by omega) _⟩)
          | (obtain ⟨u0, u1, u2, u3, u4, u5, u6, u7⟩ := st8 (R3.out.setRow_far (k := w.heap.size + 1) (by omega) #[.int .i64 yb, .int .i64 mob, .int .i64 db, .int .i64 hb, .int .i64 mib, .int .i64 sb, .int .i64 msb, .int .i64 ob]); obtain ⟨t0, t1, t2, t3, t4, t5, t6, t7⟩ := st8 (S3.out.setRow #[.int .i64 yb, .int .i64 mob, .int .i64 db, .int .i64 hb, .int .i64 mib, .int .i64 sb, .int .i64 msb, .int .i64 ob]); refine bodyPost_ret (v := .tuple #[.agg #[.int .i64 ya, .int .i64 moa, .int .i64 da, .int .i64 ha, .int .i64 mia, .int .i64 sa, .int .i64 msa, .int .i64 oa], .agg #[.int .i64 yb, .int .i64 mob, .int .i64 db, .int .i64 hb, .int .i64 mib, .int .i64 sb, .int .i64 msb, .int .i64 ob]]) (by first | (simp [results, Tryd.results17, go_sem, u0, u1, u2, u3, u4, u5, u6, u7, t0, t1, t2, t3, t4, t5, t6, t7]; done) | fail) rfl ?_; exact ⟨⟨ya, moa, da, ha, mia, sa, msa, oa⟩, ⟨yb, mob, db, hb, mib, sb, msb, ob⟩, rfl, Rd.setRow (hr3.more (by omega)) (k := w.heap.size + 1) (by omega) _, Blk.onlyRow G3.out (g := w.heap.size + 1) (by omega) _⟩)
          | (obtain ⟨u0, u1, u2, u3, u4, u5, u6, u7⟩ := st8 ((R3.out.setRow_far (k := w.heap.size + 1) (by omega) #[.int .i64 yb, .int .i64 mob, .int .i64 db, .int .i64 hb, .int .i64 mib, .int .i64 sb, .int .i64 msb, .int .i64 ob]).setRow #[.int .i64 ya, .int .i64 moa, .int .i64 da, .int .i64 ha, .int .i64 mia, .int .i64 sa, .int .i64 msa, .int .i64 oa]); obtain ⟨t0, t1, t2, t3, t4, t5, t6, t7⟩ := st8 ((S3.out.setRow #[.int .i64 yb, .int .i64 mob, .int .i64 db, .int .i64 hb, .int .i64 mib, .int .i64 sb, .int .i64 msb, .int .i64 ob]).setRow_far (k := w.heap.size) (by omega) #[.int .i64 ya, .int .i64 moa, .int .i64 da, .int .i64 ha, .int .i64 mia, .int .i64 sa, .int .i64 msa, .int .i64 oa]); refine bodyPost_ret (v := .tuple #[.agg #[.int .i64 ya, .int .i64 moa, .int .i64 da, .int .i64 ha, .int .i64 mia, .int .i64 sa, .int .i64 msa, .int .i64 oa], .agg #[.int .i64 yb, .int .i64 mob, .int .i64 db, .int .i64 hb, .int .i64 mib, .int .i64 sb, .int .i64 msb, .int .i64 ob]]) (by first | (simp [results, Tryd.results17, go_sem, u0, u1, u2, u3, u4, u5, u6, u7, t0, t1, t2, t3, t4, t5, t6, t7]; done) | fail) rfl ?_; exact ⟨⟨ya, moa, da, ha, mia, sa, msa, oa⟩, ⟨yb, mob, db, hb, mib, sb, msb, ob⟩, rfl, Rd.setRow (Rd.setRow (hr3.more (by omega)) (k := w.heap.size + 1) (by omega) _) (k := w.heap.size) (by omega) _, Blk.onlyRow (Blk.onlyRow G3.out (g := w.heap.size + 1) (by omega) _) (g := w.heap.size) (by omega) _⟩)
    | false =>
      go_wp2_with fail
      generalize (w7.alloc (.cells #[.int .i64 0, .int .i64 0, .int .i64 0, .int .i64 0, .int .i64 0, .int .i64 0, .int .i64 0, .int .i64 0] 28)).setRow w7.heap.size #[.int .i64 yb, .int .i64 mob, .int .i64 db, .int .i64 hb, .int .i64 mib, .int .i64 sb, .int .i64 msb, .int .i64 ob] = w8 at *
      have ht := T.out
      have hq1 := Q1.out
      have hq2 := Q2.out
      have hxa := XA.out
      have hgg := G.out
      obtain ⟨a0, a1, a2, a3, a4, a5, a6, a7⟩ := st8 XA.out
      have hspA := Q1.out.sp rfl
      have hspB := Q2.out.sp rfl
      go_region_with (first | (go_simp; go_at_call 39; refine (l91Stamp_any (Rd.drew ht) (by omega)).mono ?_; rintro e w3 ⟨⟨yc, moc, dc, hc, mic, sc, msc, oc⟩, rfl, hr3, hg3⟩; simp only [S8.v]; have X3 := hide ((hxa.drew).grown' hg3 (by omega)); have R3 := hide (hq1.drew.grown' hg3 (by omega)); have S3 := hide (hq2.drew.grown' hg3 (by omega)); have G3 := hide (only_trans (only_drew hgg) hg3); obtain ⟨q0, q1, q2, q3, q4, q5, q6, q7⟩ := st8 X3.out; have hsp3 := R3.out.sp rfl; have hsp4 := S3.out.sp rfl; obtain ⟨p0, p1, p2, p3, p4, p5, p6, p7⟩ := st8 (X3.out.setRow_far (k := w.heap.size) (by omega) #[.int .i64 yc, .int .i64 moc, .int .i64 dc, .int .i64 hc, .int .i64 mic, .int .i64 sc, .int .i64 msc, .int .i64 oc])))
      all_goals
        go_wp2_with fail
        first
          | (obtain ⟨u0, u1, u2, u3, u4, u5, u6, u7⟩ := st8 ((R3.out.setRow #[.int .i64 yc, .int .i64 moc, .int .i64 dc, .int .i64 hc, .int .i64 mic, .int .i64 sc, .int .i64 msc, .int .i64 oc]).setRow_far (k := w.heap.size + 1) (by omega) #[.int .i64 ya, .int .i64 moa, .int .i64 da, .int .i64 ha, .int .i64 mia, .int .i64 sa, .int .i64 msa, .int .i64 oa]); obtain ⟨t0, t1, t2, t3, t4, t5, t6, t7⟩ := st8 ((S3.out.setRow_far (k := w.heap.size) (by omega) #[.int .i64 yc, .int .i64 moc, .int .i64 dc, .int .i64 hc, .int .i64 mic, .int .i64 sc, .int .i64 msc, .int .i64 oc]).setRow #[.int .i64 ya, .int .i64 moa, .int .i64 da, .int .i64 ha, .int .i64 mia, .int .i64 sa, .int .i64 msa, .int .i64 oa]); refine bodyPost_ret (v := .tuple #[.agg #[.int .i64 yc, .int .i64 moc, .int .i64 dc, .int .i64 hc, .int .i64 mic, .int .i64 sc, .int .i64 msc, .int .i64 oc], .agg #[.int .i64 ya, .int .i64 moa, .int .i64 da, .int .i64 ha, .int .i64 mia, .int .i64 sa, .int .i64 msa, .int .i64 oa]]) (by first | (simp [results, Tryd.results17, go_sem, u0, u1, u2, u3, u4, u5, u6, u7, t0, t1, t2, t3, t4, t5, t6, t7]; done) | fail) rfl ?_; exact ⟨⟨yc, moc, dc, hc, mic, sc, msc, oc⟩, ⟨ya, moa, da, ha, mia, sa, msa, oa⟩, rfl, Rd.setRow (Rd.setRow (hr3.more (by omega)) (k := w.heap.size) (by omega) _) (k := w.heap.size + 1) (by omega) _, Blk.onlyRow (Blk.onlyRow G3.out (g := w.heap.size) (by omega) _) (g := w.heap.size + 1) (by omega) _⟩)
          | (obtain ⟨u0, u1, u2, u3, u4, u5, u6, u7⟩ := st8 (R3.out.setRow_far (k := w.heap.size + 1) (by omega) #[.int .i64 ya, .int .i64 moa, .int .i64 da, .int .i64 ha, .int .i64 mia, .int .i64 sa, .int .i64 msa, .int .i64 oa]); obtain ⟨t0, t1, t2, t3, t4, t5, t6, t7⟩ := st8 (S3.out.setRow #[.int .i64 ya, .int .i64 moa, .int .i64 da, .int .i64 ha, .int .i64 mia, .int .i64 sa, .int .i64 msa, .int .i64 oa]); refine bodyPost_ret (v := .tuple #[.agg #[.int .i64 yc, .int .i64 moc, .int .i64 dc, .int .i64 hc, .int .i64 mic, .int .i64 sc, .int .i64 msc, .int .i64 oc], .agg #[.int .i64 ya, .int .i64 moa, .int .i64 da, .int .i64 ha, .int .i64 mia, .int .i64 sa, .int .i64 msa, .int .i64 oa]]) (by first | (simp [results, Tryd.results17, go_sem, u0, u1, u2, u3, u4, u5, u6, u7, t0, t1, t2, t3, t4, t5, t6, t7]; done) | fail) rfl ?_; exact ⟨⟨yc, moc, dc, hc, mic, sc, msc, oc⟩, ⟨ya, moa, da, ha, mia, sa, msa, oa⟩, rfl, Rd.setRow (hr3.more (by omega)) (k := w.heap.size + 1) (by omega) _, Blk.onlyRow G3.out (g := w.heap.size + 1) (by omega) _⟩)
          | (obtain ⟨u0, u1, u2, u3, u4, u5, u6, u7⟩ := st8 ((R3.out.setRow_far (k := w.heap.size + 1) (by omega) #[.int .i64 ya, .int .i64 moa, .int .i64 da, .int .i64 ha, .int .i64 mia, .int .i64 sa, .int .i64 msa, .int .i64 oa]).setRow #[.int .i64 yc, .int .i64 moc, .int .i64 dc, .int .i64 hc, .int .i64 mic, .int .i64 sc, .int .i64 msc, .int .i64 oc]); obtain ⟨t0, t1, t2, t3, t4, t5, t6, t7⟩ := st8 ((S3.out.setRow #[.int .i64 ya, .int .i64 moa, .int .i64 da, .int .i64 ha, .int .i64 mia, .int .i64 sa, .int .i64 msa, .int .i64 oa]).setRow_far (k := w.heap.size) (by omega) #[.int .i64 yc, .int .i64 moc, .int .i64 dc, .int .i64 hc, .int .i64 mic, .int .i64 sc, .int .i64 msc, .int .i64 oc]); refine bodyPost_ret (v := .tuple #[.agg #[.int .i64 yc, .int .i64 moc, .int .i64 dc, .int .i64 hc, .int .i64 mic, .int .i64 sc, .int .i64 msc, .int .i64 oc], .agg #[.int .i64 ya, .int .i64 moa, .int .i64 da, .int .i64 ha, .int .i64 mia, .int .i64 sa, .int .i64 msa, .int .i64 oa]]) (by first | (simp [results, Tryd.results17, go_sem, u0, u1, u2, u3, u4, u5, u6, u7, t0, t1, t2, t3, t4, t5, t6, t7]; done) | fail) rfl ?_; exact ⟨⟨yc, moc, dc, hc, mic, sc, msc, oc⟩, ⟨ya, moa, da, ha, mia, sa, msa, oa⟩, rfl, Rd.setRow (Rd.setRow (hr3.more (by omega)) (k := w.heap.size + 1) (by omega) _) (k := w.heap.size) (by omega) _, Blk.onlyRow (Blk.onlyRow G3.out (g := w.heap.size + 1) (by omega) _) (g := w.heap.size) (by omega) _⟩)

/-- Two drawn stamps. -/
def DrawnTs (w : World) (e : Ending) (w' : World) : Prop :=
  ∃ a b : S8, e = .returned (.tuple #[.agg a.v, .agg b.v]) ∧ Below w.heap.size w w'
set_option maxRecDepth 100000 in
set_option maxHeartbeats 4000000 in
theorem drawTS {B len cap : Nat} {A : Option Addr} {w : World} (hs : Src B w A len) (hB : B ≤ w.heap.size) (hc : len ≤ cap) (hm : cap ≤ maxLen) :
    Calls Tryd.prog 7 #[.slice A len cap] w (DrawnTs w) := by
  have P1 := (Blk.new w 28 #[.int .i64 0, .int .i64 0, .int .i64 0, .int .i64 0, .int .i64 0, .int .i64 0, .int .i64 0, .int .i64 0]).alloc (.cells #[.int .i64 0, .int .i64 0, .int .i64 0, .int .i64 0, .int .i64 0, .int .i64 0, .int .i64 0, .int .i64 0] 28)
  have P2 := Blk.newE (W := w.alloc (.cells #[.int .i64 0, .int .i64 0, .int .i64 0, .int .i64 0, .int .i64 0, .int .i64 0, .int .i64 0, .int .i64 0] 28)) (g := w.heap.size + 1) (t := 28) (cs := #[.int .i64 0, .int .i64 0, .int .i64 0, .int .i64 0, .int .i64 0, .int .i64 0, .int .i64 0, .int .i64 0]) (by simp)
  go_enter Tryd.func7, Tryd.ntmps7
  go_wp2_with fail
  refine (l6Open_any ((hs.keep fun p hp => World.cell?_alloc_lt w _ p (by omega)).keep fun p hp => World.cell?_alloc_lt _ _ p (by simp; omega)) (by simp; omega) hc hm).mono ?_
  rintro e w1 ⟨g, rfl, hg, hr1, hb1⟩
  have hg' : w.heap.size + 1 < g := Nat.lt_of_lt_of_le P2.lt hg
  have Q1 := hide (P1.below hb1 P1.lt)
  have Q2 := hide (P2.below hb1 P2.lt)
  have B1 := hide (bto (bal (bal (Below.refl w.heap.size w) (.cells #[.int .i64 0, .int .i64 0, .int .i64 0, .int .i64 0, .int .i64 0, .int .i64 0, .int .i64 0, .int .i64 0] 28)) (.cells #[.int .i64 0, .int .i64 0, .int .i64 0, .int .i64 0, .int .i64 0, .int .i64 0, .int .i64 0, .int .i64 0] 28)) hb1)
  clear P1 P2 hb1
  go_wp2_with fail
  refine (l91Two_any hr1 (by omega)).mono ?_
  rintro e w2 ⟨⟨ya, moa, da, ha, mia, sa, msa, oa⟩, ⟨yb, mob, db, hb, mib, sb, msb, ob⟩, rfl, _, hg2⟩
  simp only [S8.v]
  have R3 := hide (Q1.out.grown' hg2 (by omega))
  have S3 := hide (Q2.out.grown' hg2 (by omega))
  have B2 := hide (bonly B1.out hg2 (by omega))
  have hsp1 := R3.out.sp rfl
  have hsp2 := S3.out.sp rfl
  clear Q1 Q2 B1 hr1 hg2
  go_wp2_with fail
  obtain ⟨u0, u1, u2, u3, u4, u5, u6, u7⟩ := st8 ((R3.out.setRow #[.int .i64 ya, .int .i64 moa, .int .i64 da, .int .i64 ha, .int .i64 mia, .int .i64 sa, .int .i64 msa, .int .i64 oa]).setRow_far (k := w.heap.size + 1) (by omega) #[.int .i64 yb, .int .i64 mob, .int .i64 db, .int .i64 hb, .int .i64 mib, .int .i64 sb, .int .i64 msb, .int .i64 ob])
  obtain ⟨t0, t1, t2, t3, t4, t5, t6, t7⟩ := st8 ((S3.out.setRow_far (k := w.heap.size) (by omega) #[.int .i64 ya, .int .i64 moa, .int .i64 da, .int .i64 ha, .int .i64 mia, .int .i64 sa, .int .i64 msa, .int .i64 oa]).setRow #[.int .i64 yb, .int .i64 mob, .int .i64 db, .int .i64 hb, .int .i64 mib, .int .i64 sb, .int .i64 msb, .int .i64 ob])
  refine bodyPost_ret (v := .tuple #[.agg #[.int .i64 ya, .int .i64 moa, .int .i64 da, .int .i64 ha, .int .i64 mia, .int .i64 sa, .int .i64 msa, .int .i64 oa], .agg #[.int .i64 yb, .int .i64 mob, .int .i64 db, .int .i64 hb, .int .i64 mib, .int .i64 sb, .int .i64 msb, .int .i64 ob]]) (by simp [results, Tryd.results7, go_sem, u0, u1, u2, u3, u4, u5, u6, u7, t0, t1, t2, t3, t4, t5, t6, t7]) rfl ?_
  exact ⟨⟨ya, moa, da, ha, mia, sa, msa, oa⟩, ⟨yb, mob, db, hb, mib, sb, msb, ob⟩, rfl, brow (brow B2.out (Nat.le_refl _) _) (by omega) _⟩
end
end Go.Proofs.YtinemkjoohgmjaaDoor
