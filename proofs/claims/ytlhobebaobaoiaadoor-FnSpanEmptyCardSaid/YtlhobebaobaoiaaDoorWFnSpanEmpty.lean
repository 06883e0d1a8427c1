/- The law FnSpanEmpty returns true. -/
import Derived.Test.YtlhobebaobaoiaaDoorDrT
import Derived.Test.YtlhobebaobaoiaaDoorShellD
namespace Go.Proofs.YtlhobebaobaoiaaDoor
open Go.RowKit

set_option maxRecDepth 100000 in
set_option maxHeartbeats 4000000 in
theorem impl_sh0 (a x : S8) (w : World) (hM : MD w) (hoka : a.ok = true) (hokx : x.ok = true) :
    Calls Tryd.prog 24 #[.agg a.v, .agg a.v, .agg x.v] w fun e w' => e = .returned (.bool false) ∧ Below w.heap.size w w' := by
  obtain ⟨ya, moa, da, ha, mia, sa, msa, oa⟩ := a
  obtain ⟨yb, mob, db, hb, mib, sb, msb, ob⟩ := x
  have B0 := hide (bal (bal (bal (Below.refl w.heap.size w) (.cells #[.int .i64 ya, .int .i64 moa, .int .i64 da, .int .i64 ha, .int .i64 mia, .int .i64 sa, .int .i64 msa, .int .i64 oa] 31)) (.cells #[.int .i64 ya, .int .i64 moa, .int .i64 da, .int .i64 ha, .int .i64 mia, .int .i64 sa, .int .i64 msa, .int .i64 oa] 31)) (.cells #[.int .i64 yb, .int .i64 mob, .int .i64 db, .int .i64 hb, .int .i64 mib, .int .i64 sb, .int .i64 msb, .int .i64 ob] 31))
  have P0 := hide (((Blk.new w 31 #[.int .i64 ya, .int .i64 moa, .int .i64 da, .int .i64 ha, .int .i64 mia, .int .i64 sa, .int .i64 msa, .int .i64 oa]).alloc (.cells #[.int .i64 ya, .int .i64 moa, .int .i64 da, .int .i64 ha, .int .i64 mia, .int .i64 sa, .int .i64 msa, .int .i64 oa] 31)).alloc (.cells #[.int .i64 yb, .int .i64 mob, .int .i64 db, .int .i64 hb, .int .i64 mib, .int .i64 sb, .int .i64 msb, .int .i64 ob] 31))
  have Q0 := hide ((Blk.newE (W := w.alloc (.cells #[.int .i64 ya, .int .i64 moa, .int .i64 da, .int .i64 ha, .int .i64 mia, .int .i64 sa, .int .i64 msa, .int .i64 oa] 31)) (g := w.heap.size + 1) (t := 31) (cs := #[.int .i64 ya, .int .i64 moa, .int .i64 da, .int .i64 ha, .int .i64 mia, .int .i64 sa, .int .i64 msa, .int .i64 oa]) (by simp)).alloc (.cells #[.int .i64 yb, .int .i64 mob, .int .i64 db, .int .i64 hb, .int .i64 mib, .int .i64 sb, .int .i64 msb, .int .i64 ob] 31))
  have X0 := hide (Blk.newE (W := (w.alloc (.cells #[.int .i64 ya, .int .i64 moa, .int .i64 da, .int .i64 ha, .int .i64 mia, .int .i64 sa, .int .i64 msa, .int .i64 oa] 31)).alloc (.cells #[.int .i64 ya, .int .i64 moa, .int .i64 da, .int .i64 ha, .int .i64 mia, .int .i64 sa, .int .i64 msa, .int .i64 oa] 31)) (g := w.heap.size + 1 + 1) (t := 31) (cs := #[.int .i64 yb, .int .i64 mob, .int .i64 db, .int .i64 hb, .int .i64 mib, .int .i64 sb, .int .i64 msb, .int .i64 ob]) (by simp))
  have hA : ∀ W, MD W → Calls Tryd.prog 49 #[.agg #[.int .i64 ya, .int .i64 moa, .int .i64 da, .int .i64 ha, .int .i64 mia, .int .i64 sa, .int .i64 msa, .int .i64 oa]] W fun e w' => e = .returned (.bool true) ∧ Below W.heap.size W w' := fun W h => by have := impl_sv ⟨ya, moa, da, ha, mia, sa, msa, oa⟩ W h; rw [hoka] at this; exact this
  have hB : ∀ W, MD W → Calls Tryd.prog 49 #[.agg #[.int .i64 yb, .int .i64 mob, .int .i64 db, .int .i64 hb, .int .i64 mib, .int .i64 sb, .int .i64 msb, .int .i64 ob]] W fun e w' => e = .returned (.bool true) ∧ Below W.heap.size W w' := fun W h => by have := impl_sv ⟨yb, mob, db, hb, mib, sb, msb, ob⟩ W h; rw [hokx] at this; exact this
  have hIA : ∀ W, MD W → Calls Tryd.prog 50 #[.agg #[.int .i64 ya, .int .i64 moa, .int .i64 da, .int .i64 ha, .int .i64 mia, .int .i64 sa, .int .i64 msa, .int .i64 oa]] W fun e w' => e = .returned (.int .i64 (S8.ins ⟨ya, moa, da, ha, mia, sa, msa, oa⟩)) ∧ Below W.heap.size W w' := fun W h => instantOf_any ⟨ya, moa, da, ha, mia, sa, msa, oa⟩ W h hoka
  have hIB : ∀ W, MD W → Calls Tryd.prog 50 #[.agg #[.int .i64 yb, .int .i64 mob, .int .i64 db, .int .i64 hb, .int .i64 mib, .int .i64 sb, .int .i64 msb, .int .i64 ob]] W fun e w' => e = .returned (.int .i64 (S8.ins ⟨yb, mob, db, hb, mib, sb, msb, ob⟩)) ∧ Below W.heap.size W w' := fun W h => instantOf_any ⟨yb, mob, db, hb, mib, sb, msb, ob⟩ W h hokx
  clear hoka hokx
  generalize S8.ins ⟨ya, moa, da, ha, mia, sa, msa, oa⟩ = na at *
  generalize S8.ins ⟨yb, mob, db, hb, mib, sb, msb, ob⟩ = nb at *
  simp only [S8.v]
  go_enter Tryd.func24, Tryd.ntmps24
  go_wp2_with fail
  refine (hA _ (hM.below B0.out)).mono ?_
  rintro e w1 ⟨rfl, hb1⟩
  have B1 := hide (bto B0.out hb1)
  have P1 := hide (P0.out.below hb1 P0.out.lt)
  have Q1 := hide (Q0.out.below hb1 Q0.out.lt)
  have X1 := hide (X0.out.below hb1 X0.out.lt)
  clear P0 Q0 X0 hb1 B0
  obtain ⟨c0, c1, c2, c3, c4, c5, c6, c7⟩ := st8 Q1.out
  go_wp2_with fail
  refine (hA _ (hM.below B1.out)).mono ?_
  rintro e w2 ⟨rfl, hb2⟩
  have B2 := hide (bto B1.out hb2)
  have P2 := hide (P1.out.below hb2 P1.out.lt)
  have Q2 := hide (Q1.out.below hb2 Q1.out.lt)
  have X2 := hide (X1.out.below hb2 X1.out.lt)
  clear P1 Q1 X1 hb2 B1 c0 c1 c2 c3 c4 c5 c6 c7
  obtain ⟨c0, c1, c2, c3, c4, c5, c6, c7⟩ := st8 X2.out
  go_wp2_with fail
  refine (hB _ (hM.below B2.out)).mono ?_
  rintro e w3 ⟨rfl, hb3⟩
  have B3 := hide (bto B2.out hb3)
  have P3 := hide (P2.out.below hb3 P2.out.lt)
  have Q3 := hide (Q2.out.below hb3 Q2.out.lt)
  have X3 := hide (X2.out.below hb3 X2.out.lt)
  clear P2 Q2 X2 hb3 B2 c0 c1 c2 c3 c4 c5 c6 c7
  obtain ⟨c0, c1, c2, c3, c4, c5, c6, c7⟩ := st8 X3.out
  go_wp2_with fail
  refine (hIB _ (hM.below B3.out)).mono ?_
  rintro e w4 ⟨rfl, hb4⟩
  have B4 := hide (bto B3.out hb4)
  have P4 := hide (P3.out.below hb4 P3.out.lt)
  have Q4 := hide (Q3.out.below hb4 Q3.out.lt)
  have X4 := hide (X3.out.below hb4 X3.out.lt)
  clear P3 Q3 X3 hb4 B3 c0 c1 c2 c3 c4 c5 c6 c7
  obtain ⟨c0, c1, c2, c3, c4, c5, c6, c7⟩ := st8 P4.out
  go_wp2_with fail
  refine (hIA _ (hM.below B4.out)).mono ?_
  rintro e w5 ⟨rfl, hb5⟩
  have B5 := hide (bto B4.out hb5)
  have P5 := hide (P4.out.below hb5 P4.out.lt)
  have Q5 := hide (Q4.out.below hb5 Q4.out.lt)
  have X5 := hide (X4.out.below hb5 X4.out.lt)
  clear P4 Q4 X4 hb5 B4 c0 c1 c2 c3 c4 c5 c6 c7
  by_cases hle : na ≤ nb
  · have g1 : decide (nb ≥ na) = true := decide_eq_true hle
    have g2 : decide (nb < na) = false := decide_eq_false (by omega)
    obtain ⟨c0, c1, c2, c3, c4, c5, c6, c7⟩ := st8 Q5.out
    go_wp2_with fail
    refine (hIA _ (hM.below B5.out)).mono ?_
    rintro e w6 ⟨rfl, hb6⟩
    have B6 := hide (bto B5.out hb6)
    have P6 := hide (P5.out.below hb6 P5.out.lt)
    have Q6 := hide (Q5.out.below hb6 Q5.out.lt)
    have X6 := hide (X5.out.below hb6 X5.out.lt)
    clear P5 Q5 X5 hb6 B5 c0 c1 c2 c3 c4 c5 c6 c7
    go_wp2_with fail
    go_ret
    exact ⟨by first | rfl | (rw [g2]), B6.out⟩
  · have g1 : decide (nb ≥ na) = false := decide_eq_false (by omega)
    go_wp2_with fail
    go_ret
    exact ⟨rfl, B5.out⟩
theorem spL_ok {a b : S8} (h : ¬ spL a b < 0) : a.ok = true ∧ b.ok = true := by
  cases ha : a.ok with
  | false => exact absurd (by rw [spL_a ha]; decide) h
  | true =>
    cases hb : b.ok with
    | false => exact absurd (by rw [spL_b hb]; decide) h
    | true => exact ⟨rfl, rfl⟩
set_option maxRecDepth 100000 in
set_option maxHeartbeats 4000000 in
theorem w_FnSpanEmpty (w : World) (hM : MD w) (A : Option Addr) (len cap : Nat) (hs : Src w.heap.size w A len) (hc : len ≤ cap) (hm : cap ≤ maxLen) :
    Calls Tryd.prog 8 #[.slice A len cap] w fun e w' => e = .returned (.bool true) ∧ Below w.heap.size w w' := by
  have hm' := hm
  unfold maxLen at hm'
  by_cases hbig : 1048576 < len
  · go_enter Tryd.func8, Tryd.ntmps8
    go_wp2_with fail
    go_ret
    exact ⟨rfl, Below.refl _ _⟩
  · go_enter Tryd.func8, Tryd.ntmps8
    go_wp2_with fail
    refine (drawTS hs (Nat.le_refl _) hc hm).mono ?_
    rintro e w1 ⟨⟨ya, moa, da, ha, mia, sa, msa, oa⟩, ⟨yb, mob, db, hb, mib, sb, msb, ob⟩, rfl, hb1⟩
    simp only [S8.v]
    have hsz1 := hb1.size
    have P1 := hide ((Blk.new w1 31 #[.int .i64 ya, .int .i64 moa, .int .i64 da, .int .i64 ha, .int .i64 mia, .int .i64 sa, .int .i64 msa, .int .i64 oa]).alloc (.cells #[.int .i64 yb, .int .i64 mob, .int .i64 db, .int .i64 hb, .int .i64 mib, .int .i64 sb, .int .i64 msb, .int .i64 ob] 31))
    have Q1 := hide (Blk.newE (W := w1.alloc (.cells #[.int .i64 ya, .int .i64 moa, .int .i64 da, .int .i64 ha, .int .i64 mia, .int .i64 sa, .int .i64 msa, .int .i64 oa] 31)) (g := w1.heap.size + 1) (t := 31) (cs := #[.int .i64 yb, .int .i64 mob, .int .i64 db, .int .i64 hb, .int .i64 mib, .int .i64 sb, .int .i64 msb, .int .i64 ob]) (by simp))
    have B1 := hide (bal (bal hb1 (.cells #[.int .i64 ya, .int .i64 moa, .int .i64 da, .int .i64 ha, .int .i64 mia, .int .i64 sa, .int .i64 msa, .int .i64 oa] 31)) (.cells #[.int .i64 yb, .int .i64 mob, .int .i64 db, .int .i64 hb, .int .i64 mib, .int .i64 sb, .int .i64 msb, .int .i64 ob] 31))
    obtain ⟨L, eL⟩ : ∃ L, spL ⟨ya, moa, da, ha, mia, sa, msa, oa⟩ ⟨yb, mob, db, hb, mib, sb, msb, ob⟩ = L := ⟨_, rfl⟩
    have HL := hide eL
    have g0 : (L != L) = false := by simp
    have g1 : (L == L) = true := by simp
    clear eL hb1
    go_wp2_with fail

    refine (impl_sl ⟨ya, moa, da, ha, mia, sa, msa, oa⟩ ⟨yb, mob, db, hb, mib, sb, msb, ob⟩ _ (hM.below B1.out)).mono ?_
    rintro e w2 ⟨rfl, hb2⟩
    rw [HL.out]
    have P2 := hide (P1.out.below hb2 P1.out.lt)
    have Q2 := hide (Q1.out.below hb2 Q1.out.lt)
    have B2 := hide (bto B1.out hb2)
    clear P1 Q1 B1 hb2
    obtain ⟨a0, a1, a2, a3, a4, a5, a6, a7⟩ := st8 P2.out
    obtain ⟨b0, b1, b2, b3, b4, b5, b6, b7⟩ := st8 Q2.out
    go_wp2_with fail
    refine (spec_sl ⟨ya, moa, da, ha, mia, sa, msa, oa⟩ ⟨yb, mob, db, hb, mib, sb, msb, ob⟩ _).mono ?_
    rintro e w3 ⟨rfl, hb3⟩
    rw [HL.out]
    have P3 := hide (P2.out.below hb3 P2.out.lt)
    have Q3 := hide (Q2.out.below hb3 Q2.out.lt)
    have B3 := hide (bto B2.out hb3)
    clear P2 Q2 B2 hb3 a0 a1 a2 a3 a4 a5 a6 a7 b0 b1 b2 b3 b4 b5 b6 b7
    by_cases hL : L < 0
    · have g2 : decide (L < 0) = true := decide_eq_true hL
      go_wp2_with fail
      go_ret
      exact ⟨by first | rfl | (rw [g1]), B3.out⟩
    · have g2 : decide (L < 0) = false := decide_eq_false hL
      have hokA : S8.ok ⟨ya, moa, da, ha, mia, sa, msa, oa⟩ = true := (spL_ok (by rw [HL.out]; exact hL)).1
      have hokB : S8.ok ⟨yb, mob, db, hb, mib, sb, msb, ob⟩ = true := (spL_ok (by rw [HL.out]; exact hL)).2
      have HA := hide hokA
      have HB := hide hokB
      have HS := hide (show spL ⟨ya, moa, da, ha, mia, sa, msa, oa⟩ ⟨ya, moa, da, ha, mia, sa, msa, oa⟩ = 0 by rw [spL_yes hokA hokA (Int.le_refl _)]; omega)
      clear hokA hokB
      obtain ⟨a0, a1, a2, a3, a4, a5, a6, a7⟩ := st8 P3.out
      go_wp2_with fail
      refine (impl_sl ⟨ya, moa, da, ha, mia, sa, msa, oa⟩ ⟨ya, moa, da, ha, mia, sa, msa, oa⟩ _ (hM.below B3.out)).mono ?_
      rintro e w4 ⟨rfl, hb4⟩
      rw [HS.out]
      have P4 := hide (P3.out.below hb4 P3.out.lt)
      have Q4 := hide (Q3.out.below hb4 Q3.out.lt)
      have B4 := hide (bto B3.out hb4)
      clear P3 Q3 B3 hb4 a0 a1 a2 a3 a4 a5 a6 a7
      obtain ⟨a0, a1, a2, a3, a4, a5, a6, a7⟩ := st8 P4.out
      go_wp2_with fail
      refine (impl_sh0 ⟨ya, moa, da, ha, mia, sa, msa, oa⟩ ⟨ya, moa, da, ha, mia, sa, msa, oa⟩ _ (hM.below B4.out) HA.out HA.out).mono ?_
      rintro e w5 ⟨rfl, hb5⟩
      have P5 := hide (P4.out.below hb5 P4.out.lt)
      have Q5 := hide (Q4.out.below hb5 Q4.out.lt)
      have B5 := hide (bto B4.out hb5)
      clear P4 Q4 B4 hb5 a0 a1 a2 a3 a4 a5 a6 a7
      obtain ⟨a0, a1, a2, a3, a4, a5, a6, a7⟩ := st8 P5.out
      obtain ⟨b0, b1, b2, b3, b4, b5, b6, b7⟩ := st8 Q5.out
      go_wp2_with fail
      refine (impl_sh0 ⟨ya, moa, da, ha, mia, sa, msa, oa⟩ ⟨yb, mob, db, hb, mib, sb, msb, ob⟩ _ (hM.below B5.out) HA.out HB.out).mono ?_
      rintro e w6 ⟨rfl, hb6⟩
      have B6 := hide (bto B5.out hb6)
      clear P5 Q5 B5 hb6 a0 a1 a2 a3 a4 a5 a6 a7 b0 b1 b2 b3 b4 b5 b6 b7
      go_wp2_with fail
      go_ret
      exact ⟨rfl, B6.out⟩
end Go.Proofs.YtlhobebaobaoiaaDoor
