/- The law FnSpanTextParts returns true. -/
import Derived.Test.YtinemkjoohgmjaaDoorTx9
import Derived.Test.YtinemkjoohgmjaaDoorDrT
import Derived.Test.YtinemkjoohgmjaaDoorShellD
import Derived.Deep.CutRange
namespace Go.Proofs.YtinemkjoohgmjaaDoor
open Go.RowKit
attribute [local go_sem] S_mk S_size S_app p1_len p2_len p3_len p4_len lt_cell

set_option maxRecDepth 100000 in
set_option maxHeartbeats 2000000 in
theorem w_FnSpanTextParts (w : World) (hM : MD w) (A : Option Addr) (len cap : Nat) (hs : Src w.heap.size w A len) (hc : len ≤ cap) (hm : cap ≤ maxLen) :
    Calls Tryd.prog 3 #[.slice A len cap] w fun e w' => e = .returned (.bool true) ∧ Below w.heap.size w w' := by
  have hm' := hm
  unfold maxLen at hm'
  by_cases hbig : 1048576 < len
  · go_enter Tryd.func3, Tryd.ntmps3
    go_wp2_with fail
    go_ret
    exact ⟨rfl, Below.refl _ _⟩
  · go_enter Tryd.func3, Tryd.ntmps3
    go_wp2_with fail
    refine (drawTS hs (Nat.le_refl _) hc hm).mono ?_
    rintro e w1 ⟨⟨ya, moa, da, ha, mia, sa, msa, oa⟩, ⟨yb, mob, db, hb, mib, sb, msb, ob⟩, rfl, hb1⟩
    simp only [S8.v]
    obtain ⟨W, hW⟩ : ∃ W, W = (w1.alloc (.cells #[.int .i64 ya, .int .i64 moa, .int .i64 da, .int .i64 ha, .int .i64 mia, .int .i64 sa, .int .i64 msa, .int .i64 oa] 28)).alloc (.cells #[.int .i64 yb, .int .i64 mob, .int .i64 db, .int .i64 hb, .int .i64 mib, .int .i64 sb, .int .i64 msb, .int .i64 ob] 28) := ⟨_, rfl⟩
    have B0 := hide (show Below w.heap.size w W by rw [hW]; exact bal (bal hb1 _) _)
    have XA := hide (show Blk W w1.heap.size 28 #[.int .i64 ya, .int .i64 moa, .int .i64 da, .int .i64 ha, .int .i64 mia, .int .i64 sa, .int .i64 msa, .int .i64 oa] by rw [hW]; exact (Blk.new _ _ _).alloc _)
    have XB := hide (show Blk W (w1.heap.size + 1) 28 #[.int .i64 yb, .int .i64 mob, .int .i64 db, .int .i64 hb, .int .i64 mib, .int .i64 sb, .int .i64 msb, .int .i64 ob] by rw [hW]; exact Blk.newE (by simp))
    have HW := hide hW
    clear hW hb1 hs hc hm hm'
    obtain ⟨a0, a1, a2, a3, a4, a5, a6, a7⟩ := st8 XA.out
    obtain ⟨b0, b1, b2, b3, b4, b5, b6, b7⟩ := st8 XB.out
    have hM0 := hM.below B0.out
    go_upto_region 4 with fail
    rw [← HW.out]
    clear HW
    go_wp2_with fail
    refine (impl_spT ya moa da ha mia sa msa oa yb mob db hb mib sb msb ob W hM0).mono ?_
    rintro e w2 ⟨rfl, hb2⟩
    have B2 := hide (bto B0.out hb2)
    have XA2 := hide (XA.out.below hb2 XA.out.lt)
    have XB2 := hide (XB.out.below hb2 XB.out.lt)
    clear XA XB hb2 a0 a1 a2 a3 a4 a5 a6 a7 b0 b1 b2 b3 b4 b5 b6 b7
    obtain ⟨a0, a1, a2, a3, a4, a5, a6, a7⟩ := st8 XA2.out
    obtain ⟨b0, b1, b2, b3, b4, b5, b6, b7⟩ := st8 XB2.out
    go_wp2_with fail
    refine (spec_spT ya moa da ha mia sa msa oa yb mob db hb mib sb msb ob w2).mono ?_
    rintro e w3 ⟨rfl, hb3⟩
    have B3 := hide (bto B2.out hb3)
    have XA3 := hide (XA2.out.below hb3 XA2.out.lt)
    have XB3 := hide (XB2.out.below hb3 XB2.out.lt)
    clear XA2 XB2 hb3 a0 a1 a2 a3 a4 a5 a6 a7 b0 b1 b2 b3 b4 b5 b6 b7
    cases hok : spok ⟨ya, moa, da, ha, mia, sa, msa, oa⟩ ⟨yb, mob, db, hb, mib, sb, msb, ob⟩ with
    | false =>
      rw [spT_no hok]
      clear hok
      go_wp2_with fail
      go_ret
      exact ⟨rfl, B3.out⟩
    | true =>
      rw [spT_yes hok]
      obtain ⟨oka, okb, _⟩ := spok_in hok
      have hM3 := hM.below B3.out
      have hda := fun x : Lt w3 => impl_stT ya moa da ha mia sa msa oa x.w (hM3.below x.h) oka
      have hdb := fun x : Lt w3 => impl_stT yb mob db hb mib sb msb ob x.w (hM3.below x.h) okb
      have l1 : (((stT ⟨ya, moa, da, ha, mia, sa, msa, oa⟩).length : Nat) : Int) ≤ 29 := by have := stT_len ⟨ya, moa, da, ha, mia, sa, msa, oa⟩; omega
      have l2 : (((stT ⟨yb, mob, db, hb, mib, sb, msb, ob⟩).length : Nat) : Int) ≤ 29 := by have := stT_len ⟨yb, mob, db, hb, mib, sb, msb, ob⟩; omega
      generalize stT ⟨ya, moa, da, ha, mia, sa, msa, oa⟩ = TA at *
      generalize stT ⟨yb, mob, db, hb, mib, sb, msb, ob⟩ = TB at *
      have n1 := XA3.out.lt
      have n2 := XB3.out.lt
      have n3 : w1.heap.size ≤ w3.heap.size := by omega
      have n4 : w1.heap.size + 1 ≤ w3.heap.size := by omega
      obtain ⟨a0, a1, a2, a3, a4, a5, a6, a7⟩ := st8 XA3.out
      obtain ⟨b0, b1, b2, b3, b4, b5, b6, b7⟩ := st8 XB3.out
      clear hok oka okb
      go_wp2_with fail
      refine region_below (by kernel_rfl) (by kernel_rfl) ?_
      repeat (go_big_quiet_step ((first | (go_at_call_of 10 ya; exact lt_call (hda _)) | (go_at_call_of 10 yb; exact lt_call (hdb _)))))
      refine wpQuiet_nil ?_
      rintro wq ⟨⟨_, hq⟩, rfl⟩
      have BQ := hide (bto B3.out hq)
      clear a0 a1 a2 a3 a4 a5 a6 a7 b0 b1 b2 b3 b4 b5 b6 b7
      go_wp2_with fail
      go_ret
      exact ⟨by simp, BQ.out⟩
end Go.Proofs.YtinemkjoohgmjaaDoor
