/- The law FnExactSpanText returns true. -/
import Derived.Test.YtinemkjoohgmjaaDoorTx9
import Derived.Test.YtinemkjoohgmjaaDoorSt8
import Derived.Test.YtinemkjoohgmjaaDoorShellI
import Derived.Deep.CutRange
import Derived.Test.YtinemkjoohgmjaaDoorShellD
namespace Go.Proofs.YtinemkjoohgmjaaDoor
open Go.RowKit
attribute [local go_sem] S_mk S_size S_app p1_len p2_len p3_len p4_len lt_cell

theorem cells8 {w : World} {g : Nat} {t : TypeId} {c0 c1 c2 c3 c4 c5 c6 c7 : Value} (H : Blk w g t #[c0, c1, c2, c3, c4, c5, c6, c7]) : w.cell? ⟨g, 0, none⟩ = some c0 ∧ w.cell? ⟨g, 1, none⟩ = some c1 ∧ w.cell? ⟨g, 2, none⟩ = some c2 ∧ w.cell? ⟨g, 3, none⟩ = some c3 ∧ w.cell? ⟨g, 4, none⟩ = some c4 ∧ w.cell? ⟨g, 5, none⟩ = some c5 ∧ w.cell? ⟨g, 6, none⟩ = some c6 ∧ w.cell? ⟨g, 7, none⟩ = some c7 :=
  ⟨H.cell 0, H.cell 1, H.cell 2, H.cell 3, H.cell 4, H.cell 5, H.cell 6, H.cell 7⟩
set_option maxRecDepth 100000 in
set_option maxHeartbeats 2000000 in
theorem w_FnExactSpanText (w : World) (hM : MD w) (xa : S8) (_ha : True) (xb : S8) (_hb : True) :
    Calls Tryd.prog 6 #[.agg xa.v, .agg xb.v] w fun e w' => e = .returned (.bool true) ∧ Below w.heap.size w w' := by
  obtain ⟨ya, moa, da, ha, mia, sa, msa, oa⟩ := xa
  obtain ⟨yb, mob, db, hb, mib, sb, msb, ob⟩ := xb
  simp only [S8.v]
  obtain ⟨W, hW⟩ : ∃ W, W = (w.alloc (.cells #[.int .i64 ya, .int .i64 moa, .int .i64 da, .int .i64 ha, .int .i64 mia, .int .i64 sa, .int .i64 msa, .int .i64 oa] 38)).alloc (.cells #[.int .i64 yb, .int .i64 mob, .int .i64 db, .int .i64 hb, .int .i64 mib, .int .i64 sb, .int .i64 msb, .int .i64 ob] 38) := ⟨_, rfl⟩
  have B0 := hide (show Below w.heap.size w W by rw [hW]; exact bal (bal (Below.refl _ _) _) _)
  have XA := hide (show Blk W w.heap.size 38 #[.int .i64 ya, .int .i64 moa, .int .i64 da, .int .i64 ha, .int .i64 mia, .int .i64 sa, .int .i64 msa, .int .i64 oa] by rw [hW]; exact (Blk.new _ _ _).alloc _)
  have XB := hide (show Blk W (w.heap.size + 1) 38 #[.int .i64 yb, .int .i64 mob, .int .i64 db, .int .i64 hb, .int .i64 mib, .int .i64 sb, .int .i64 msb, .int .i64 ob] by rw [hW]; exact Blk.newE (by simp))
  have HW := hide hW
  clear hW
  obtain ⟨a0, a1, a2, a3, a4, a5, a6, a7⟩ := cells8 XA.out
  obtain ⟨b0, b1, b2, b3, b4, b5, b6, b7⟩ := cells8 XB.out
  have n1 := XA.out.lt
  have n2 := XB.out.lt
  have n3 : w.heap.size ≤ W.heap.size := by omega
  have n4 : w.heap.size + 1 ≤ W.heap.size := by omega
  have hTA := fun W => toStamp_any ⟨ya, moa, da, ha, mia, sa, msa, oa⟩ W
  have hTB := fun W => toStamp_any ⟨yb, mob, db, hb, mib, sb, msb, ob⟩ W
  have hSP := fun W => spec_spT ya moa da ha mia sa msa oa yb mob db hb mib sb msb ob W
  have hM0 := hM.below B0.out
  have hIP := fun (W' : World) (h : MD W') => impl_spT ya moa da ha mia sa msa oa yb mob db hb mib sb msb ob W' h
  generalize spT ⟨ya, moa, da, ha, mia, sa, msa, oa⟩ ⟨yb, mob, db, hb, mib, sb, msb, ob⟩ = R at *
  generalize spok ⟨ya, moa, da, ha, mia, sa, msa, oa⟩ ⟨yb, mob, db, hb, mib, sb, msb, ob⟩ = ok at *
  simp only [S8.v] at hTA hTB
  have g1 : (ok != ok) = false := by simp
  go_enter Tryd.func6, Tryd.ntmps6
  go_upto_region 1 with fail
  rw [← HW.out]
  clear HW
  refine region_below (by kernel_rfl) (by kernel_rfl) ?_
  repeat (go_big_quiet_step ((first | (go_at_call 9; exact lt_call (hSP _)) | (go_at_call_of 16 ya; exact lt_call (hTA _)) | (go_at_call_of 16 yb; exact lt_call (hTB _)))))
  refine wpQuiet_nil ?_
  rintro wq ⟨⟨_, hq⟩, rfl⟩
  have BQ := hide (bto B0.out hq)
  have XAq := hide (XA.out.below hq n1)
  have XBq := hide (XB.out.below hq n2)
  have hMq := hM0.below hq
  have m1 := XAq.out.lt
  have m2 := XBq.out.lt
  have m3 : w.heap.size ≤ wq.heap.size := by omega
  have m4 : w.heap.size + 1 ≤ wq.heap.size := by omega
  clear a0 a1 a2 a3 a4 a5 a6 a7 b0 b1 b2 b3 b4 b5 b6 b7 XA XB hq
  obtain ⟨a0, a1, a2, a3, a4, a5, a6, a7⟩ := cells8 XAq.out
  obtain ⟨b0, b1, b2, b3, b4, b5, b6, b7⟩ := cells8 XBq.out
  go_wp2_with fail
  refine region_below (by kernel_rfl) (by kernel_rfl) ?_
  repeat (go_big_quiet_step ((first | (go_at_call 8; exact lt_call (hIP _ (MD.below hMq (Lt.h _)))) | (go_at_call_of 16 ya; exact lt_call (hTA _)) | (go_at_call_of 16 yb; exact lt_call (hTB _)))))
  refine wpQuiet_nil ?_
  rintro wr ⟨⟨_, hr⟩, rfl⟩
  have BR := hide (bto BQ.out hr)
  clear a0 a1 a2 a3 a4 a5 a6 a7 b0 b1 b2 b3 b4 b5 b6 b7
  go_wp2_with fail
  go_ret
  exact ⟨rfl, BR.out⟩
end Go.Proofs.YtinemkjoohgmjaaDoor
