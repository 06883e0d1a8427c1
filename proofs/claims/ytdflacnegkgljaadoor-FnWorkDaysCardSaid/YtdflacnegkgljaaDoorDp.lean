/- DayPlus: the program's where the sum is a date, the reference's for few days. -/
import Derived.Test.YtdflacnegkgljaaDoorDt5
import Derived.Test.YtdflacnegkgljaaDoorPd
namespace Go.Proofs.YtdflacnegkgljaaDoor
open Go.RowKit

theorem spec_dnum (y mo d : Int) (w : World) (hv : vld y mo d = true) :
    Calls Tryd.prog 49 #[.agg #[.int .i64 y, .int .i64 mo, .int .i64 d]] w fun e w' => e = .returned (.int .i64 (num y mo d)) ∧ Below w.heap.size w w' := by
  have h := spec_dayNumber y mo d w
  rw [dnum_yes hv] at h
  exact h

set_option maxRecDepth 100000 in
set_option maxHeartbeats 4000000 in
theorem impl_dp_yes (y mo d k : Int) (w : World) (hM : MD w) (hv : vld y mo d = true) (hk : 0 ≤ k) (hk2 : num y mo d + k ≤ 3652058) :
    Calls Tryd.prog 34 #[.agg #[.int .i64 y, .int .i64 mo, .int .i64 d], .int .i64 k] w fun e w' => e = .returned (.tuple #[.agg #[.int .i64 (yOf (num y mo d + k)), .int .i64 (mOf (num y mo d + k)), .int .i64 (dOf (num y mo d + k))], .bool true]) ∧ Below w.heap.size w w' := by
  have hn := num_bd hv
  have hi := inB_true (show -3652058 ≤ k by omega) (show k ≤ 3652058 by omega)
  have D0 := hide ((Blk.new w 25 #[.int .i64 y, .int .i64 mo, .int .i64 d]).alloc (.cells #[.int .i64 0, .int .i64 0, .int .i64 0] 25))
  have R0 := hide (Blk.newE (W := w.alloc (.cells #[.int .i64 y, .int .i64 mo, .int .i64 d] 25)) (g := w.heap.size + 1) (t := 25) (cs := #[.int .i64 0, .int .i64 0, .int .i64 0]) (by simp))
  have B0 := hide (bal (bal (Below.refl w.heap.size w) (.cells #[.int .i64 y, .int .i64 mo, .int .i64 d] 25)) (.cells #[.int .i64 0, .int .i64 0, .int .i64 0] 25))
  have HV := hide hv
  clear hv
  go_enter Tryd.func34, Tryd.ntmps34
  go_wp2_with fail
  refine (impl_dateValid y mo d _ (hM.below B0.out)).mono ?_
  rintro e w1 ⟨rfl, hb1⟩
  rw [HV.out]
  have D1 := hide (D0.out.below hb1 D0.out.lt)
  have R1 := hide (R0.out.below hb1 R0.out.lt)
  have B1 := hide (bto B0.out hb1)
  clear D0 R0 B0 hb1
  have c0 := D1.out.cell 0
  have c1 := D1.out.cell 1
  have c2 := D1.out.cell 2
  simp at c0 c1 c2
  go_wp2_with (go_at_call 37; refine (within_any _ _ _ _).mono ?_; rintro e w' ⟨rfl, rfl⟩)
  refine (impl_number y mo d _ (hM.below B1.out) HV.out).mono ?_
  rintro e w2 ⟨rfl, hb2⟩
  have R2 := hide (R1.out.below hb2 R1.out.lt)
  have B2 := hide (bto B1.out hb2)
  clear D1 R1 B1 hb2 c0 c1 c2
  generalize hN : num y mo d = N at *
  have HN := hide hN
  clear hN
  go_wp2_with fail
  refine (impl_dateOf_yes (N + k) _ (hM.below B2.out) (by omega) (by omega)).mono ?_
  rintro e w3 ⟨rfl, hb3⟩
  have R3 := hide (R2.out.below hb3 R2.out.lt)
  have B3 := hide (bto B2.out hb3)
  clear R2 B2 hb3
  have r0 := R3.out.cell 0
  have r1 := R3.out.cell 1
  have r2 := R3.out.cell 2
  have f0 := R3.out.frozen 0
  have f1 := R3.out.frozen 1
  have f2 := R3.out.frozen 2
  simp at r0 r1 r2
  have RR := ((R3.out.set_ 0 (.int .i64 (yOf (N + k)))).set_ 1 (.int .i64 (mOf (N + k)))).set_ 2 (.int .i64 (dOf (N + k)))
  have k0 := RR.cell 0
  have k1 := RR.cell 1
  have k2 := RR.cell 2
  simp at k0 k1 k2
  clear RR
  go_wp2_with fail
  refine bodyPost_ret (by simp [results, Tryd.results34, go_sem, k0, k1, k2]; try rfl) rfl ?_
  exact ⟨by rw [HN.out], bset (bset (bset B3.out (p := ⟨w.heap.size + 1, 0, none⟩) (by simp) _) (p := ⟨w.heap.size + 1, 1, none⟩) (by simp) _) (p := ⟨w.heap.size + 1, 2, none⟩) (by simp) _⟩
set_option maxRecDepth 100000 in
set_option maxHeartbeats 4000000 in
theorem spec_dp_yes (y mo d k : Int) (w : World) (hv : vld y mo d = true) (hka : -100 ≤ k) (hkb : k ≤ 100) (hk : 0 ≤ num y mo d + k) (hk2 : num y mo d + k ≤ 3652058) :
    Calls Tryd.prog 56 #[.agg #[.int .i64 y, .int .i64 mo, .int .i64 d], .int .i64 k] w fun e w' => e = .returned (.tuple #[.agg #[.int .i64 (yOf (num y mo d + k)), .int .i64 (mOf (num y mo d + k)), .int .i64 (dOf (num y mo d + k))], .bool true]) ∧ Below w.heap.size w w' := by
  have hn := num_bd hv
  have hi := inB_true (show -3652058 ≤ k by omega) (show k ≤ 3652058 by omega)
  have D0 := hide ((Blk.new w 25 #[.int .i64 y, .int .i64 mo, .int .i64 d]).alloc (.cells #[.int .i64 0, .int .i64 0, .int .i64 0] 25))
  have R0 := hide (Blk.newE (W := w.alloc (.cells #[.int .i64 y, .int .i64 mo, .int .i64 d] 25)) (g := w.heap.size + 1) (t := 25) (cs := #[.int .i64 0, .int .i64 0, .int .i64 0]) (by simp))
  have B0 := hide (bal (bal (Below.refl w.heap.size w) (.cells #[.int .i64 y, .int .i64 mo, .int .i64 d] 25)) (.cells #[.int .i64 0, .int .i64 0, .int .i64 0] 25))
  have HV := hide hv
  clear hv
  go_enter Tryd.func56, Tryd.ntmps56
  go_wp2_with fail
  refine (spec_dateValid y mo d _).mono ?_
  rintro e w1 ⟨rfl, hb1⟩
  rw [HV.out]
  have D1 := hide (D0.out.below hb1 D0.out.lt)
  have R1 := hide (R0.out.below hb1 R0.out.lt)
  have B1 := hide (bto B0.out hb1)
  clear D0 R0 B0 hb1
  have c0 := D1.out.cell 0
  have c1 := D1.out.cell 1
  have c2 := D1.out.cell 2
  simp at c0 c1 c2
  go_wp2_with (go_at_call 38; refine (l6In_any _ _ _ _).mono ?_; rintro e w' ⟨rfl, rfl⟩)
  refine (spec_dnum y mo d _ HV.out).mono ?_
  rintro e w2 ⟨rfl, hb2⟩
  have R2 := hide (R1.out.below hb2 R1.out.lt)
  have B2 := hide (bto B1.out hb2)
  clear D1 R1 B1 hb2 c0 c1 c2
  generalize hN : num y mo d = N at *
  have HN := hide hN
  clear hN
  go_wp2_with fail
  refine (spec_dateOf_yes (N + k) _ (by omega) (by omega)).mono ?_
  rintro e w3 ⟨rfl, hb3⟩
  have R3 := hide (R2.out.below hb3 R2.out.lt)
  have B3 := hide (bto B2.out hb3)
  clear R2 B2 hb3
  have r0 := R3.out.cell 0
  have r1 := R3.out.cell 1
  have r2 := R3.out.cell 2
  have f0 := R3.out.frozen 0
  have f1 := R3.out.frozen 1
  have f2 := R3.out.frozen 2
  simp at r0 r1 r2
  have RR := ((R3.out.set_ 0 (.int .i64 (yOf (N + k)))).set_ 1 (.int .i64 (mOf (N + k)))).set_ 2 (.int .i64 (dOf (N + k)))
  have k0 := RR.cell 0
  have k1 := RR.cell 1
  have k2 := RR.cell 2
  simp at k0 k1 k2
  clear RR
  go_wp2_with fail
  refine bodyPost_ret (by simp [results, Tryd.results56, go_sem, k0, k1, k2]; try rfl) rfl ?_
  exact ⟨by rw [HN.out], bset (bset (bset B3.out (p := ⟨w.heap.size + 1, 0, none⟩) (by simp) _) (p := ⟨w.heap.size + 1, 1, none⟩) (by simp) _) (p := ⟨w.heap.size + 1, 2, none⟩) (by simp) _⟩
set_option maxRecDepth 100000 in
set_option maxHeartbeats 4000000 in
theorem spec_dp_no (y mo d k : Int) (w : World) (hv : vld y mo d = true) (hka : -100 ≤ k) (hkb : k ≤ 100) (hk2 : ¬ (0 ≤ num y mo d + k ∧ num y mo d + k ≤ 3652058)) :
    Calls Tryd.prog 56 #[.agg #[.int .i64 y, .int .i64 mo, .int .i64 d], .int .i64 k] w fun e w' => e = .returned (.tuple #[.agg #[.int .i64 0, .int .i64 0, .int .i64 0], .bool false]) ∧ Below w.heap.size w w' := by
  have hn := num_bd hv
  have hi := inB_true (show -3652058 ≤ k by omega) (show k ≤ 3652058 by omega)
  have D0 := hide ((Blk.new w 25 #[.int .i64 y, .int .i64 mo, .int .i64 d]).alloc (.cells #[.int .i64 0, .int .i64 0, .int .i64 0] 25))
  have R0 := hide (Blk.newE (W := w.alloc (.cells #[.int .i64 y, .int .i64 mo, .int .i64 d] 25)) (g := w.heap.size + 1) (t := 25) (cs := #[.int .i64 0, .int .i64 0, .int .i64 0]) (by simp))
  have B0 := hide (bal (bal (Below.refl w.heap.size w) (.cells #[.int .i64 y, .int .i64 mo, .int .i64 d] 25)) (.cells #[.int .i64 0, .int .i64 0, .int .i64 0] 25))
  have HV := hide hv
  clear hv
  go_enter Tryd.func56, Tryd.ntmps56
  go_wp2_with fail
  refine (spec_dateValid y mo d _).mono ?_
  rintro e w1 ⟨rfl, hb1⟩
  rw [HV.out]
  have D1 := hide (D0.out.below hb1 D0.out.lt)
  have R1 := hide (R0.out.below hb1 R0.out.lt)
  have B1 := hide (bto B0.out hb1)
  clear D0 R0 B0 hb1
  have c0 := D1.out.cell 0
  have c1 := D1.out.cell 1
  have c2 := D1.out.cell 2
  simp at c0 c1 c2
  go_wp2_with (go_at_call 38; refine (l6In_any _ _ _ _).mono ?_; rintro e w' ⟨rfl, rfl⟩)
  refine (spec_dnum y mo d _ HV.out).mono ?_
  rintro e w2 ⟨rfl, hb2⟩
  have R2 := hide (R1.out.below hb2 R1.out.lt)
  have B2 := hide (bto B1.out hb2)
  clear D1 R1 B1 hb2 c0 c1 c2
  generalize num y mo d = N at *
  go_wp2_with fail
  refine (spec_dateOf_no (N + k) _ (by omega)).mono ?_
  rintro e w3 ⟨rfl, hb3⟩
  have R3 := hide (R2.out.below hb3 R2.out.lt)
  have B3 := hide (bto B2.out hb3)
  clear R2 B2 hb3
  have r0 := R3.out.cell 0
  have r1 := R3.out.cell 1
  have r2 := R3.out.cell 2
  have f0 := R3.out.frozen 0
  have f1 := R3.out.frozen 1
  have f2 := R3.out.frozen 2
  simp at r0 r1 r2
  have RR := ((R3.out.set_ 0 (.int .i64 0)).set_ 1 (.int .i64 0)).set_ 2 (.int .i64 0)
  have k0 := RR.cell 0
  have k1 := RR.cell 1
  have k2 := RR.cell 2
  simp at k0 k1 k2
  clear RR
  go_wp2_with fail
  refine bodyPost_ret (by simp [results, Tryd.results56, go_sem, k0, k1, k2]; try rfl) rfl ?_
  exact ⟨rfl, bset (bset (bset B3.out (p := ⟨w.heap.size + 1, 0, none⟩) (by simp) _) (p := ⟨w.heap.size + 1, 1, none⟩) (by simp) _) (p := ⟨w.heap.size + 1, 2, none⟩) (by simp) _⟩
set_option maxRecDepth 100000 in
set_option maxHeartbeats 4000000 in
theorem spec_dp_bad (y mo d k : Int) (w : World) (hv : vld y mo d = false) :
    Calls Tryd.prog 56 #[.agg #[.int .i64 y, .int .i64 mo, .int .i64 d], .int .i64 k] w fun e w' => e = .returned (.tuple #[.agg #[.int .i64 0, .int .i64 0, .int .i64 0], .bool false]) ∧ Below w.heap.size w w' := by
  have R0 := hide (Blk.newE (W := w.alloc (.cells #[.int .i64 y, .int .i64 mo, .int .i64 d] 25)) (g := w.heap.size + 1) (t := 25) (cs := #[.int .i64 0, .int .i64 0, .int .i64 0]) (by simp))
  have B0 := hide (bal (bal (Below.refl w.heap.size w) (.cells #[.int .i64 y, .int .i64 mo, .int .i64 d] 25)) (.cells #[.int .i64 0, .int .i64 0, .int .i64 0] 25))
  have HV := hide hv
  clear hv
  go_enter Tryd.func56, Tryd.ntmps56
  go_wp2_with fail
  refine (spec_dateValid y mo d _).mono ?_
  rintro e w1 ⟨rfl, hb1⟩
  rw [HV.out]
  have R3 := hide (R0.out.below hb1 R0.out.lt)
  have B3 := hide (bto B0.out hb1)
  clear R0 B0 hb1
  have r0 := R3.out.cell 0
  have r1 := R3.out.cell 1
  have r2 := R3.out.cell 2
  have f0 := R3.out.frozen 0
  have f1 := R3.out.frozen 1
  have f2 := R3.out.frozen 2
  simp at r0 r1 r2
  have RR := ((R3.out.set_ 0 (.int .i64 0)).set_ 1 (.int .i64 0)).set_ 2 (.int .i64 0)
  have k0 := RR.cell 0
  have k1 := RR.cell 1
  have k2 := RR.cell 2
  simp at k0 k1 k2
  clear RR
  go_wp2_with fail
  refine bodyPost_ret (by simp [results, Tryd.results56, go_sem, k0, k1, k2]; try rfl) rfl ?_
  exact ⟨rfl, bset (bset (bset B3.out (p := ⟨w.heap.size + 1, 0, none⟩) (by simp) _) (p := ⟨w.heap.size + 1, 1, none⟩) (by simp) _) (p := ⟨w.heap.size + 1, 2, none⟩) (by simp) _⟩
/-- Some date and whether there is one. -/
def SomeDB (w : World) (e : Ending) (w' : World) : Prop :=
  ∃ (x y z : Int) (b : Bool), e = .returned (.tuple #[.agg #[.int .i64 x, .int .i64 y, .int .i64 z], .bool b]) ∧ Below w.heap.size w w'
theorem spec_dp_any (y mo d k : Int) (w : World) (hka : -100 ≤ k) (hkb : k ≤ 100) :
    Calls Tryd.prog 56 #[.agg #[.int .i64 y, .int .i64 mo, .int .i64 d], .int .i64 k] w (SomeDB w) := by
  cases hv : vld y mo d with
  | false => exact (spec_dp_bad y mo d k w hv).mono fun e w' ⟨h, hb⟩ => ⟨_, _, _, _, h, hb⟩
  | true =>
    by_cases h : 0 ≤ num y mo d + k ∧ num y mo d + k ≤ 3652058
    · exact (spec_dp_yes y mo d k w hv hka hkb h.1 h.2).mono fun e w' ⟨h, hb⟩ => ⟨_, _, _, _, h, hb⟩
    · exact (spec_dp_no y mo d k w hv hka hkb h).mono fun e w' ⟨h, hb⟩ => ⟨_, _, _, _, h, hb⟩
end Go.Proofs.YtdflacnegkgljaaDoor
