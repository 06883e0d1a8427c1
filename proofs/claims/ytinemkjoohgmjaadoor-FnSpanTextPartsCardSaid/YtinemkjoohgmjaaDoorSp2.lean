/- Contracts: spans (the program's). -/
import Derived.Test.YtinemkjoohgmjaaDoorSp1
namespace Go.Proofs.YtinemkjoohgmjaaDoor
open Go.RowKit

set_option maxRecDepth 100000 in
set_option maxHeartbeats 4000000 in
theorem both_any (ya moa da ha mia sa msa oa yb mob db hb mib sb msb ob : Int) (w : World) (hM : MD w) (hka : S8.ok ⟨ya, moa, da, ha, mia, sa, msa, oa⟩ = true) (hkb : S8.ok ⟨yb, mob, db, hb, mib, sb, msb, ob⟩ = true) :
    Calls Tryd.prog 43 #[.agg #[.int .i64 ya, .int .i64 moa, .int .i64 da, .int .i64 ha, .int .i64 mia, .int .i64 sa, .int .i64 msa, .int .i64 oa, .int .i64 yb, .int .i64 mob, .int .i64 db, .int .i64 hb, .int .i64 mib, .int .i64 sb, .int .i64 msb, .int .i64 ob], .func (.func 44) #[] #[]] w fun e w' => e = .returned (.agg #[.int .i64 (S8.ins ⟨ya, moa, da, ha, mia, sa, msa, oa⟩), .int .i64 (S8.ins ⟨yb, mob, db, hb, mib, sb, msb, ob⟩)]) ∧ Below w.heap.size w w' := by
  have B0 := hide (bal (bal (Below.refl w.heap.size w) (.cells #[.int .i64 ya, .int .i64 moa, .int .i64 da, .int .i64 ha, .int .i64 mia, .int .i64 sa, .int .i64 msa, .int .i64 oa, .int .i64 yb, .int .i64 mob, .int .i64 db, .int .i64 hb, .int .i64 mib, .int .i64 sb, .int .i64 msb, .int .i64 ob] 88)) (.cells #[.int .i64 0, .int .i64 0] 57))
  have X0 := hide ((Blk.new w 88 #[.int .i64 ya, .int .i64 moa, .int .i64 da, .int .i64 ha, .int .i64 mia, .int .i64 sa, .int .i64 msa, .int .i64 oa, .int .i64 yb, .int .i64 mob, .int .i64 db, .int .i64 hb, .int .i64 mib, .int .i64 sb, .int .i64 msb, .int .i64 ob]).alloc (.cells #[.int .i64 0, .int .i64 0] 57))
  have R0 := hide (Blk.newE (W := w.alloc (.cells #[.int .i64 ya, .int .i64 moa, .int .i64 da, .int .i64 ha, .int .i64 mia, .int .i64 sa, .int .i64 msa, .int .i64 oa, .int .i64 yb, .int .i64 mob, .int .i64 db, .int .i64 hb, .int .i64 mib, .int .i64 sb, .int .i64 msb, .int .i64 ob] 88)) (g := w.heap.size + 1) (t := 57) (cs := #[.int .i64 0, .int .i64 0]) (by simp))
  have hA : ∀ W, MD W → Calls Tryd.prog 44 #[.agg #[.int .i64 ya, .int .i64 moa, .int .i64 da, .int .i64 ha, .int .i64 mia, .int .i64 sa, .int .i64 msa, .int .i64 oa]] W fun e w' => e = .returned (.int .i64 (S8.ins ⟨ya, moa, da, ha, mia, sa, msa, oa⟩)) ∧ Below W.heap.size W w' := fun W h => instantOf_any ⟨ya, moa, da, ha, mia, sa, msa, oa⟩ W h hka
  have hB : ∀ W, MD W → Calls Tryd.prog 44 #[.agg #[.int .i64 yb, .int .i64 mob, .int .i64 db, .int .i64 hb, .int .i64 mib, .int .i64 sb, .int .i64 msb, .int .i64 ob]] W fun e w' => e = .returned (.int .i64 (S8.ins ⟨yb, mob, db, hb, mib, sb, msb, ob⟩)) ∧ Below W.heap.size W w' := fun W h => instantOf_any ⟨yb, mob, db, hb, mib, sb, msb, ob⟩ W h hkb
  clear hka hkb
  generalize S8.ins ⟨ya, moa, da, ha, mia, sa, msa, oa⟩ = na at *
  generalize S8.ins ⟨yb, mob, db, hb, mib, sb, msb, ob⟩ = nb at *
  go_enter Tryd.func43, Tryd.ntmps43
  go_wp2_with fail
  go_region_with (first | (go_simp; go_at_call_of 44 ya; refine (hA _ (hM.below (bdrew B0.out))).mono ?_; rintro e w1 ⟨rfl, hb1⟩; have X1 := hide (X0.out.drew.below hb1 X0.out.drew.lt); have R1 := hide (R0.out.drew.below hb1 R0.out.drew.lt); have B1 := hide (bto (bdrew B0.out) hb1); have q8 := (X1.out).cell 8; have q9 := (X1.out).cell 9; have q10 := (X1.out).cell 10; have q11 := (X1.out).cell 11; have q12 := (X1.out).cell 12; have q13 := (X1.out).cell 13; have q14 := (X1.out).cell 14; have q15 := (X1.out).cell 15; simp at q8 q9 q10 q11 q12 q13 q14 q15) | (go_simp; go_at_call_of 44 yb; refine (hB _ (hM.below B1.out)).mono ?_; rintro e w2 ⟨rfl, hb2⟩; have R2 := hide (R1.out.below hb2 R1.out.lt); have B2 := hide (bto B1.out hb2); have r0 := R2.out.cell 0; have r1 := R2.out.cell 1; have f0 := R2.out.frozen 0; have f1 := R2.out.frozen 1; simp at r0 r1))
  all_goals
    go_wp2_with fail
    have RR := (R2.out.set_ 0 (.int .i64 na)).set_ 1 (.int .i64 nb)
    have k0 := RR.cell 0
    have k1 := RR.cell 1
    simp at k0 k1
    refine bodyPost_ret (by simp [results, Tryd.results43, go_sem, k0, k1]; try rfl) rfl ?_
    exact ⟨rfl, bset (bset B2.out (p := ⟨w.heap.size + 1, 0, none⟩) (by simp) _) (p := ⟨w.heap.size + 1, 1, none⟩) (by simp) _⟩
/-- A span's instants, and whether it is one. -/
def spok (a b : S8) : Bool := a.ok && (b.ok && decide (a.ins ≤ b.ins))
set_option maxRecDepth 100000 in
set_option maxHeartbeats 4000000 in
theorem spanOf_any (a b : S8) (w : World) (hM : MD w) :
    Calls Tryd.prog 19 #[.agg a.v, .agg b.v] w fun e w' => (∃ m n : Int, e = .returned (.tuple #[.agg #[.int .i64 m, .int .i64 n], .bool (spok a b)]) ∧ (spok a b = true → m = a.ins ∧ n = b.ins)) ∧ Below w.heap.size w w' := by
  obtain ⟨ya, moa, da, ha, mia, sa, msa, oa⟩ := a
  obtain ⟨yb, mob, db, hb, mib, sb, msb, ob⟩ := b
  have B0 := hide (bal (bal (bal (Below.refl w.heap.size w) (.cells #[.int .i64 ya, .int .i64 moa, .int .i64 da, .int .i64 ha, .int .i64 mia, .int .i64 sa, .int .i64 msa, .int .i64 oa] 28)) (.cells #[.int .i64 yb, .int .i64 mob, .int .i64 db, .int .i64 hb, .int .i64 mib, .int .i64 sb, .int .i64 msb, .int .i64 ob] 28)) (.cells #[.int .i64 0, .int .i64 0] 57))
  have XA0 := hide (((Blk.new w 28 #[.int .i64 ya, .int .i64 moa, .int .i64 da, .int .i64 ha, .int .i64 mia, .int .i64 sa, .int .i64 msa, .int .i64 oa]).alloc (.cells #[.int .i64 yb, .int .i64 mob, .int .i64 db, .int .i64 hb, .int .i64 mib, .int .i64 sb, .int .i64 msb, .int .i64 ob] 28)).alloc (.cells #[.int .i64 0, .int .i64 0] 57))
  have XB0 := hide ((Blk.newE (W := w.alloc (.cells #[.int .i64 ya, .int .i64 moa, .int .i64 da, .int .i64 ha, .int .i64 mia, .int .i64 sa, .int .i64 msa, .int .i64 oa] 28)) (g := w.heap.size + 1) (t := 28) (cs := #[.int .i64 yb, .int .i64 mob, .int .i64 db, .int .i64 hb, .int .i64 mib, .int .i64 sb, .int .i64 msb, .int .i64 ob]) (by simp)).alloc (.cells #[.int .i64 0, .int .i64 0] 57))
  have R0 := hide (Blk.newE (W := (w.alloc (.cells #[.int .i64 ya, .int .i64 moa, .int .i64 da, .int .i64 ha, .int .i64 mia, .int .i64 sa, .int .i64 msa, .int .i64 oa] 28)).alloc (.cells #[.int .i64 yb, .int .i64 mob, .int .i64 db, .int .i64 hb, .int .i64 mib, .int .i64 sb, .int .i64 msb, .int .i64 ob] 28)) (g := w.heap.size + 1 + 1) (t := 57) (cs := #[.int .i64 0, .int .i64 0]) (by simp))
  have hA : ∀ W, MD W → Calls Tryd.prog 22 #[.agg #[.int .i64 ya, .int .i64 moa, .int .i64 da, .int .i64 ha, .int .i64 mia, .int .i64 sa, .int .i64 msa, .int .i64 oa]] W fun e w' => e = .returned (.bool (S8.ok ⟨ya, moa, da, ha, mia, sa, msa, oa⟩)) ∧ Below W.heap.size W w' := fun W h => impl_sv ⟨ya, moa, da, ha, mia, sa, msa, oa⟩ W h
  have hB : ∀ W, MD W → Calls Tryd.prog 22 #[.agg #[.int .i64 yb, .int .i64 mob, .int .i64 db, .int .i64 hb, .int .i64 mib, .int .i64 sb, .int .i64 msb, .int .i64 ob]] W fun e w' => e = .returned (.bool (S8.ok ⟨yb, mob, db, hb, mib, sb, msb, ob⟩)) ∧ Below W.heap.size W w' := fun W h => impl_sv ⟨yb, mob, db, hb, mib, sb, msb, ob⟩ W h
  simp only [S8.v]
  go_enter Tryd.func19, Tryd.ntmps19
  go_wp2_with fail
  refine (hA _ (hM.below B0.out)).mono ?_
  rintro e w1 ⟨rfl, hb1⟩
  have B1 := hide (bto B0.out hb1)
  have XA1 := hide (XA0.out.below hb1 XA0.out.lt)
  have XB1 := hide (XB0.out.below hb1 XB0.out.lt)
  have R1 := hide (R0.out.below hb1 R0.out.lt)
  clear XA0 XB0 R0 B0 hb1
  cases hka : S8.ok ⟨ya, moa, da, ha, mia, sa, msa, oa⟩ with
  | false =>
    have HR := hide (show spok ⟨ya, moa, da, ha, mia, sa, msa, oa⟩ ⟨yb, mob, db, hb, mib, sb, msb, ob⟩ = false by unfold spok; rw [hka]; rfl)
    clear hka hA hB
    have r0 := R1.out.cell 0
    have r1 := R1.out.cell 1
    have f0 := R1.out.frozen 0
    have f1 := R1.out.frozen 1
    simp at r0 r1
    go_wp2_with fail
    have RR := (R1.out.set_ 0 (.int .i64 0)).set_ 1 (.int .i64 0)
    have k0 := RR.cell 0
    have k1 := RR.cell 1
    simp at k0 k1
    refine bodyPost_ret (by simp [results, Tryd.results19, go_sem, k0, k1]; try rfl) rfl ?_
    exact ⟨⟨0, 0, by rw [HR.out], fun h => by rw [HR.out] at h; exact absurd h (by simp)⟩, bset (bset B1.out (p := ⟨w.heap.size + 1 + 1, 0, none⟩) (by simp; omega) _) (p := ⟨w.heap.size + 1 + 1, 1, none⟩) (by simp; omega) _⟩
  | true =>
    have Hka := hide hka
    clear hka
    obtain ⟨b0, b1, b2, b3, b4, b5, b6, b7⟩ := st8 XB1.out
    go_wp2_with fail
    refine (hB _ (hM.below B1.out)).mono ?_
    rintro e w2 ⟨rfl, hb2⟩
    have B2 := hide (bto B1.out hb2)
    have XA2 := hide (XA1.out.below hb2 XA1.out.lt)
    have XB2 := hide (XB1.out.below hb2 XB1.out.lt)
    have R2 := hide (R1.out.below hb2 R1.out.lt)
    clear XA1 XB1 R1 B1 hb2 b0 b1 b2 b3 b4 b5 b6 b7
    cases hkb : S8.ok ⟨yb, mob, db, hb, mib, sb, msb, ob⟩ with
    | false =>
      have HR := hide (show spok ⟨ya, moa, da, ha, mia, sa, msa, oa⟩ ⟨yb, mob, db, hb, mib, sb, msb, ob⟩ = false by unfold spok; rw [hkb]; simp)
      clear hkb hA hB
      have r0 := R2.out.cell 0
      have r1 := R2.out.cell 1
      have f0 := R2.out.frozen 0
      have f1 := R2.out.frozen 1
      simp at r0 r1
      go_wp2_with fail
      have RR := (R2.out.set_ 0 (.int .i64 0)).set_ 1 (.int .i64 0)
      have k0 := RR.cell 0
      have k1 := RR.cell 1
      simp at k0 k1
      refine bodyPost_ret (by simp [results, Tryd.results19, go_sem, k0, k1]; try rfl) rfl ?_
      exact ⟨⟨0, 0, by rw [HR.out], fun h => by rw [HR.out] at h; exact absurd h (by simp)⟩, bset (bset B2.out (p := ⟨w.heap.size + 1 + 1, 0, none⟩) (by simp; omega) _) (p := ⟨w.heap.size + 1 + 1, 1, none⟩) (by simp; omega) _⟩
    | true =>
      have Hkb := hide hkb
      have hl2 := R2.out.lt
      clear hkb
      obtain ⟨a0, a1, a2, a3, a4, a5, a6, a7⟩ := st8 XA2.out
      obtain ⟨b0, b1, b2, b3, b4, b5, b6, b7⟩ := st8 XB2.out
      go_wp2_with fail
      refine (both_any ya moa da ha mia sa msa oa yb mob db hb mib sb msb ob _ (hM.below B2.out) Hka.out Hkb.out).mono ?_
      rintro e w3 ⟨rfl, hb3⟩
      have hz3 := hb3.size
      have HR := hide (show spok ⟨ya, moa, da, ha, mia, sa, msa, oa⟩ ⟨yb, mob, db, hb, mib, sb, msb, ob⟩ = decide (S8.ins ⟨ya, moa, da, ha, mia, sa, msa, oa⟩ ≤ S8.ins ⟨yb, mob, db, hb, mib, sb, msb, ob⟩) by unfold spok; rw [Hka.out, Hkb.out]; simp)
      generalize hna : S8.ins ⟨ya, moa, da, ha, mia, sa, msa, oa⟩ = na at *
      generalize hnb : S8.ins ⟨yb, mob, db, hb, mib, sb, msb, ob⟩ = nb at *
      have HNA := hide hna
      have HNB := hide hnb
      clear hna hnb
      have B3 := hide (bal (bto B2.out hb3) (.cells #[.int .i64 na, .int .i64 nb] 57))
      have R3 := hide ((R2.out.below hb3 R2.out.lt).alloc (.cells #[.int .i64 na, .int .i64 nb] 57))
      clear XA2 XB2 R2 B2 hb3 b0 b1 b2 b3 b4 b5 b6 b7 a0 a1 a2 a3 a4 a5 a6 a7 hA hB Hka Hkb
      have r0 := R3.out.cell 0
      have r1 := R3.out.cell 1
      have f0 := R3.out.frozen 0
      have f1 := R3.out.frozen 1
      simp at r0 r1
      go_wp2_with fail
      go_region
      all_goals
        go_wp2_with fail
        have RR := (R3.out.set_ 0 (.int .i64 na)).set_ 1 (.int .i64 nb)
        have k0 := RR.cell 0
        have k1 := RR.cell 1
        simp at k0 k1
        refine bodyPost_ret (by simp [results, Tryd.results19, go_sem, k0, k1]; try rfl) rfl ?_
        exact ⟨⟨na, nb, by rw [HR.out], fun _ => ⟨by first | rfl | exact HNA.out.symm, by first | rfl | exact HNB.out.symm⟩⟩, bset (bset (bdrewN B3.out _) (p := ⟨w.heap.size + 1 + 1, 0, none⟩) (by simp; omega) _) (p := ⟨w.heap.size + 1 + 1, 1, none⟩) (by simp; omega) _⟩
theorem spL_spok (a b : S8) : spL a b = if spok a b then b.ins - a.ins else -1 := rfl
end Go.Proofs.YtinemkjoohgmjaaDoor
