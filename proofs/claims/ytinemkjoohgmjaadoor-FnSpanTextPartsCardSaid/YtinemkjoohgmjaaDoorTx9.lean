/- Contracts: a span's text. -/
import Derived.Test.YtinemkjoohgmjaaDoorTx8
import Derived.Test.YtinemkjoohgmjaaDoorSp2
import Derived.Deep.CutRange
namespace Go.Proofs.YtinemkjoohgmjaaDoor
open Go.RowKit
attribute [local go_sem] S_mk S_size S_app p1_len p2_len p3_len p4_len lt_cell

/-- What SpanText hands back. -/
def spT (a b : S8) : List UInt8 := if spok a b then stT a ++ [47] ++ stT b else []
theorem spT_yes {a b : S8} (h : spok a b = true) : spT a b = stT a ++ [47] ++ stT b := by unfold spT; rw [if_pos h]
theorem spT_no {a b : S8} (h : spok a b = false) : spT a b = [] := by unfold spT; rw [h]; rfl
theorem spT_len (a b : S8) : (spT a b).length ≤ 59 := by
  have h1 := stT_len a
  have h2 := stT_len b
  unfold spT
  split
  · simp; omega
  · simp
theorem spok_in {a b : S8} (h : spok a b = true) : a.ok = true ∧ b.ok = true ∧ a.ins ≤ b.ins := by
  unfold spok at h
  simp only [Bool.and_eq_true, decide_eq_true_eq] at h
  exact ⟨h.1, h.2.1, h.2.2⟩
set_option maxRecDepth 100000 in
set_option maxHeartbeats 2000000 in
theorem impl_spT (ya moa da ha mia sa msa oa yb mob db hb mib sb msb ob : Int) (w : World) (hM : MD w) :
    Calls Tryd.prog 8 #[.agg #[.int .i64 ya, .int .i64 moa, .int .i64 da, .int .i64 ha, .int .i64 mia, .int .i64 sa, .int .i64 msa, .int .i64 oa], .agg #[.int .i64 yb, .int .i64 mob, .int .i64 db, .int .i64 hb, .int .i64 mib, .int .i64 sb, .int .i64 msb, .int .i64 ob]] w fun e w' => e = .returned (.tuple #[.string (S (spT ⟨ya, moa, da, ha, mia, sa, msa, oa⟩ ⟨yb, mob, db, hb, mib, sb, msb, ob⟩)), .bool (spok ⟨ya, moa, da, ha, mia, sa, msa, oa⟩ ⟨yb, mob, db, hb, mib, sb, msb, ob⟩)]) ∧ Below w.heap.size w w' := by
  obtain ⟨W, hW⟩ : ∃ W, W = (w.alloc (.cells #[.int .i64 ya, .int .i64 moa, .int .i64 da, .int .i64 ha, .int .i64 mia, .int .i64 sa, .int .i64 msa, .int .i64 oa] 28)).alloc (.cells #[.int .i64 yb, .int .i64 mob, .int .i64 db, .int .i64 hb, .int .i64 mib, .int .i64 sb, .int .i64 msb, .int .i64 ob] 28) := ⟨_, rfl⟩
  have B0 := hide (show Below w.heap.size w W by rw [hW]; exact bal (bal (Below.refl _ _) _) _)
  have XA := hide (show Blk W w.heap.size 28 #[.int .i64 ya, .int .i64 moa, .int .i64 da, .int .i64 ha, .int .i64 mia, .int .i64 sa, .int .i64 msa, .int .i64 oa] by rw [hW]; exact (Blk.new _ _ _).alloc _)
  have XB := hide (show Blk W (w.heap.size + 1) 28 #[.int .i64 yb, .int .i64 mob, .int .i64 db, .int .i64 hb, .int .i64 mib, .int .i64 sb, .int .i64 msb, .int .i64 ob] by rw [hW]; exact Blk.newE (by simp))
  have HW := hide hW
  clear hW
  obtain ⟨a0, a1, a2, a3, a4, a5, a6, a7⟩ := st8 XA.out
  obtain ⟨b0, b1, b2, b3, b4, b5, b6, b7⟩ := st8 XB.out
  go_enter Tryd.func8, Tryd.ntmps8
  go_upto_region 1 with fail
  rw [← HW.out]
  clear HW
  go_wp2_with fail
  refine (spanOf_any ⟨ya, moa, da, ha, mia, sa, msa, oa⟩ ⟨yb, mob, db, hb, mib, sb, msb, ob⟩ _ (hM.below B0.out)).mono ?_
  rintro e w1 ⟨⟨m, n, rfl, hmn⟩, hb1⟩
  obtain ⟨W1, hW1⟩ : ∃ W, W = w1.alloc (.cells #[.int .i64 m, .int .i64 n] 57) := ⟨_, rfl⟩
  have hb1' := bal hb1 (.cells #[.int .i64 m, .int .i64 n] 57)
  rw [← hW1] at hb1'
  have B1 := hide (bto B0.out hb1')
  have XA1 := hide (XA.out.below hb1' XA.out.lt)
  have XB1 := hide (XB.out.below hb1' XB.out.lt)
  have HW1 := hide hW1
  clear hW1 hb1 hb1' XA XB B0 a0 a1 a2 a3 a4 a5 a6 a7 b0 b1 b2 b3 b4 b5 b6 b7
  cases hok : spok ⟨ya, moa, da, ha, mia, sa, msa, oa⟩ ⟨yb, mob, db, hb, mib, sb, msb, ob⟩ with
  | false =>
    have HF := hide (spT_no hok)
    have HK := hide hok
    clear hmn hok
    go_upto_region 2 with fail
    rw [← HW1.out]
    clear HW1
    go_wp2_with fail
    go_returns
    exact ⟨by rw [HF.out, HK.out]; rfl, B1.out⟩
  | true =>
    obtain ⟨oka, okb, _⟩ := spok_in hok
    have HF := hide (spT_yes hok)
    have HK := hide hok
    have hM1 := hM.below B1.out
    have hda := fun x : Lt W1 => impl_stT ya moa da ha mia sa msa oa x.w (hM1.below x.h) oka
    have hdb := fun x : Lt W1 => impl_stT yb mob db hb mib sb msb ob x.w (hM1.below x.h) okb
    have l1 : (((stT ⟨ya, moa, da, ha, mia, sa, msa, oa⟩).length : Nat) : Int) ≤ 29 := by have := stT_len ⟨ya, moa, da, ha, mia, sa, msa, oa⟩; omega
    have l2 : (((stT ⟨yb, mob, db, hb, mib, sb, msb, ob⟩).length : Nat) : Int) ≤ 29 := by have := stT_len ⟨yb, mob, db, hb, mib, sb, msb, ob⟩; omega
    generalize stT ⟨ya, moa, da, ha, mia, sa, msa, oa⟩ = TA at *
    generalize stT ⟨yb, mob, db, hb, mib, sb, msb, ob⟩ = TB at *
    have n1 := XA1.out.lt
    have n2 := XB1.out.lt
    have n3 : w.heap.size ≤ W1.heap.size := by omega
    have n4 : w.heap.size + 1 ≤ W1.heap.size := by omega
    obtain ⟨a0, a1, a2, a3, a4, a5, a6, a7⟩ := st8 XA1.out
    obtain ⟨b0, b1, b2, b3, b4, b5, b6, b7⟩ := st8 XB1.out
    clear hmn hok oka okb
    go_upto_region 4 with fail
    rw [← HW1.out]
    clear HW1
    refine region_below (by kernel_rfl) (by kernel_rfl) ?_
    repeat (go_big_quiet_step ((first | (go_at_call_of 10 ya; exact lt_call (hda _)) | (go_at_call_of 10 yb; exact lt_call (hdb _)))))
    refine wpQuiet_nil ?_
    rintro wq ⟨⟨_, hq⟩, rfl⟩
    go_wp2_with fail
    go_returns
    exact ⟨by rw [HF.out, HK.out]; simp, bto B1.out hq⟩

set_option maxRecDepth 100000 in
set_option maxHeartbeats 2000000 in
theorem spec_spT (ya moa da ha mia sa msa oa yb mob db hb mib sb msb ob : Int) (w : World) :
    Calls Tryd.prog 9 #[.agg #[.int .i64 ya, .int .i64 moa, .int .i64 da, .int .i64 ha, .int .i64 mia, .int .i64 sa, .int .i64 msa, .int .i64 oa], .agg #[.int .i64 yb, .int .i64 mob, .int .i64 db, .int .i64 hb, .int .i64 mib, .int .i64 sb, .int .i64 msb, .int .i64 ob]] w fun e w' => e = .returned (.tuple #[.string (S (spT ⟨ya, moa, da, ha, mia, sa, msa, oa⟩ ⟨yb, mob, db, hb, mib, sb, msb, ob⟩)), .bool (spok ⟨ya, moa, da, ha, mia, sa, msa, oa⟩ ⟨yb, mob, db, hb, mib, sb, msb, ob⟩)]) ∧ Below w.heap.size w w' := by
  obtain ⟨W, hW⟩ : ∃ W, W = (w.alloc (.cells #[.int .i64 ya, .int .i64 moa, .int .i64 da, .int .i64 ha, .int .i64 mia, .int .i64 sa, .int .i64 msa, .int .i64 oa] 28)).alloc (.cells #[.int .i64 yb, .int .i64 mob, .int .i64 db, .int .i64 hb, .int .i64 mib, .int .i64 sb, .int .i64 msb, .int .i64 ob] 28) := ⟨_, rfl⟩
  have B0 := hide (show Below w.heap.size w W by rw [hW]; exact bal (bal (Below.refl _ _) _) _)
  have XA := hide (show Blk W w.heap.size 28 #[.int .i64 ya, .int .i64 moa, .int .i64 da, .int .i64 ha, .int .i64 mia, .int .i64 sa, .int .i64 msa, .int .i64 oa] by rw [hW]; exact (Blk.new _ _ _).alloc _)
  have XB := hide (show Blk W (w.heap.size + 1) 28 #[.int .i64 yb, .int .i64 mob, .int .i64 db, .int .i64 hb, .int .i64 mib, .int .i64 sb, .int .i64 msb, .int .i64 ob] by rw [hW]; exact Blk.newE (by simp))
  have HW := hide hW
  clear hW
  obtain ⟨a0, a1, a2, a3, a4, a5, a6, a7⟩ := st8 XA.out
  obtain ⟨b0, b1, b2, b3, b4, b5, b6, b7⟩ := st8 XB.out
  go_enter Tryd.func9, Tryd.ntmps9
  go_upto_region 1 with fail
  rw [← HW.out]
  clear HW
  go_wp2_with fail
  refine (spec_sl ⟨ya, moa, da, ha, mia, sa, msa, oa⟩ ⟨yb, mob, db, hb, mib, sb, msb, ob⟩ _).mono ?_
  rintro e w1 ⟨rfl, hb1⟩
  have B1 := hide (bto B0.out hb1)
  have XA1 := hide (XA.out.below hb1 XA.out.lt)
  have XB1 := hide (XB.out.below hb1 XB.out.lt)
  clear hb1 XA XB B0 a0 a1 a2 a3 a4 a5 a6 a7 b0 b1 b2 b3 b4 b5 b6 b7
  rw [spL_spok]
  cases hok : spok ⟨ya, moa, da, ha, mia, sa, msa, oa⟩ ⟨yb, mob, db, hb, mib, sb, msb, ob⟩ with
  | false =>
    have HF := hide (spT_no hok)
    have HK := hide hok
    clear hok
    go_wp2_with fail
    go_returns
    exact ⟨by rw [HF.out, HK.out]; rfl, B1.out⟩
  | true =>
    obtain ⟨oka, okb, hle⟩ := spok_in hok
    have HF := hide (spT_yes hok)
    have HK := hide hok
    rw [if_pos rfl]
    obtain ⟨k, hk⟩ : ∃ k, k = S8.ins ⟨yb, mob, db, hb, mib, sb, msb, ob⟩ - S8.ins ⟨ya, moa, da, ha, mia, sa, msa, oa⟩ := ⟨_, rfl⟩
    rw [← hk]
    have hk0 : 0 ≤ k := by omega
    have hk1 : ¬ k < 0 := by omega
    have hda := fun W => spec_stT ya moa da ha mia sa msa oa W oka
    have hdb := fun W => spec_stT yb mob db hb mib sb msb ob W okb
    have l1 : (((stT ⟨ya, moa, da, ha, mia, sa, msa, oa⟩).length : Nat) : Int) ≤ 29 := by have := stT_len ⟨ya, moa, da, ha, mia, sa, msa, oa⟩; omega
    have l2 : (((stT ⟨yb, mob, db, hb, mib, sb, msb, ob⟩).length : Nat) : Int) ≤ 29 := by have := stT_len ⟨yb, mob, db, hb, mib, sb, msb, ob⟩; omega
    generalize stT ⟨ya, moa, da, ha, mia, sa, msa, oa⟩ = TA at *
    generalize stT ⟨yb, mob, db, hb, mib, sb, msb, ob⟩ = TB at *
    have n1 := XA1.out.lt
    have n2 := XB1.out.lt
    have n3 : w.heap.size ≤ w1.heap.size := by omega
    have n4 : w.heap.size + 1 ≤ w1.heap.size := by omega
    obtain ⟨a0, a1, a2, a3, a4, a5, a6, a7⟩ := st8 XA1.out
    obtain ⟨b0, b1, b2, b3, b4, b5, b6, b7⟩ := st8 XB1.out
    clear hok oka okb hle hk
    go_wp2_with fail
    refine region_below (by kernel_rfl) (by kernel_rfl) ?_
    repeat (go_big_quiet_step ((first | (go_at_call_of 21 ya; exact lt_call (hda _)) | (go_at_call_of 21 yb; exact lt_call (hdb _)))))
    refine wpQuiet_nil ?_
    rintro wq ⟨⟨_, hq⟩, rfl⟩
    go_wp2_with fail
    go_returns
    exact ⟨by rw [HF.out, HK.out]; simp, bto B1.out hq⟩
end Go.Proofs.YtinemkjoohgmjaaDoor
