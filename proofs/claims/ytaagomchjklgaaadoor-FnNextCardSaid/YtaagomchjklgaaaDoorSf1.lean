/- Contracts: a date some months, some days later (the program's). -/
import Derived.Test.YtaagomchjklgaaaDoorDt5
import Derived.Test.YtaagomchjklgaaaDoorRtPl
namespace Go.Proofs.YtaagomchjklgaaaDoor
open Go.RowKit

theorem mds_m {t : Int} (h : 0 ≤ t) (h1 : t ≤ 119987) : mds (mY t) (mM t) = dim (mY t) (mM t) := mds_in (by unfold mY; omega) (by unfold mY; omega) (by unfold mM; omega) (by unfold mM; omega)
set_option maxRecDepth 100000 in
set_option maxHeartbeats 4000000 in
theorem impl_mp_yes (y mo d k : Int) (w : World) (hM : MD w) (hv : vld y mo d = true) (hk : 0 ≤ k) (ht : mT y mo k ≤ 119987) :
    Calls Tryd.prog 65 #[.agg #[.int .i64 y, .int .i64 mo, .int .i64 d], .int .i64 k] w fun e w' => e = .returned (.tuple #[.agg #[.int .i64 (mY (mT y mo k)), .int .i64 (mM (mT y mo k)), .int .i64 (mD (mT y mo k) d)], .bool true]) ∧ Below w.heap.size w w' := by
  obtain ⟨h1, h2, h3, h4, h5, h6⟩ := vld_iff.1 hv
  have hdb := dim_bd y mo
  obtain ⟨t, et⟩ : ∃ t, t = mT y mo k := ⟨_, rfl⟩
  have et' : t = 12 * (y - 1) + mo - 1 + k := et
  rw [← et] at ht ⊢
  have ht0 : 0 ≤ t := by omega
  have hmd := mds_m ht0 ht
  obtain ⟨D, eD⟩ : ∃ D, D = mds (t / 12 + 1) (t % 12 + 1) := ⟨_, rfl⟩
  have HD := hide (show mD t d = if D < d then D else d by rw [eD]; unfold mD; rw [← hmd]; rfl)
  replace eD := eD.symm
  clear hmd
  show Calls _ _ _ w fun e w' => e = .returned (.tuple #[.agg #[.int .i64 (t / 12 + 1), .int .i64 (t % 12 + 1), .int .i64 (mD t d)], .bool true]) ∧ Below w.heap.size w w'
  have hi := inB_true (show -119988 ≤ k by omega) (show k ≤ 119988 by omega)
  have D0 := hide ((Blk.new w 34 #[.int .i64 y, .int .i64 mo, .int .i64 d]).alloc (.cells #[.int .i64 0, .int .i64 0, .int .i64 0] 34))
  have R0 := hide (Blk.newE (W := w.alloc (.cells #[.int .i64 y, .int .i64 mo, .int .i64 d] 34)) (g := w.heap.size + 1) (t := 34) (cs := #[.int .i64 0, .int .i64 0, .int .i64 0]) (by simp))
  have B0 := hide (bal (bal (Below.refl w.heap.size w) (.cells #[.int .i64 y, .int .i64 mo, .int .i64 d] 34)) (.cells #[.int .i64 0, .int .i64 0, .int .i64 0] 34))
  have ES := et'.symm
  have q1 : ¬ t < 0 := by omega
  have q2 : ¬ 9999 ≤ t / 12 := by omega
  have HV := hide hv
  clear et et' hv
  go_enter Tryd.func65, Tryd.ntmps65
  go_wp2_with fail
  refine (impl_dateValid y mo d _ (hM.below B0.out)).mono ?_
  rintro e w1 ⟨rfl, hb1⟩
  rw [HV.out]
  have D1 := hide (D0.out.below hb1 D0.out.lt)
  have R1 := hide (R0.out.below hb1 R0.out.lt)
  have B1 := hide (bto B0.out hb1)
  have hl1 := R1.out.lt
  clear D0 R0 B0 hb1
  have c0 := D1.out.cell 0
  have c1 := D1.out.cell 1
  have c2 := D1.out.cell 2
  simp at c0 c1 c2
  go_wp2_with (go_at_call 33; refine (within_any _ _ _ _).mono ?_; rintro e w' ⟨rfl, rfl⟩)
  have hM1 := (hM.below B1.out).alloc (.cells #[.int .i64 (t / 12 + 1), .int .i64 (t % 12 + 1), .int .i64 d] 34)
  have B2 := hide (bal B1.out (.cells #[.int .i64 (t / 12 + 1), .int .i64 (t % 12 + 1), .int .i64 d] 34))
  have R2 := hide (R1.out.alloc (.cells #[.int .i64 (t / 12 + 1), .int .i64 (t % 12 + 1), .int .i64 d] 34))
  have O2 := hide (Blk.new w1 34 #[.int .i64 (t / 12 + 1), .int .i64 (t % 12 + 1), .int .i64 d])
  clear D1 R1 B1
  generalize w1.alloc (.cells #[.int .i64 (t / 12 + 1), .int .i64 (t % 12 + 1), .int .i64 d] 34) = w2 at *
  have a0 := O2.out.cell 0
  have a1 := O2.out.cell 1
  have a2 := O2.out.cell 2
  have fz := O2.out.frozen 2
  simp at a0 a1 a2
  go_region_with (first | (go_simp; go_at_call 82; refine (impl_mds _ _ _ hM1.drew).mono ?_; rintro e w3 ⟨rfl, rfl⟩; rw [eD]))
  all_goals
    generalize (if D < d then D else d) = D' at *
    have O3 := (O2.out.set_ 2 (.int .i64 D')).drew
    have R3 := hide ((R2.out.far (p := ⟨w1.heap.size, 2, none⟩) (show w.heap.size + 1 ≠ w1.heap.size by omega) (.int .i64 D')).drew)
    have B3 := hide (bdrew (bset B2.out (p := ⟨w1.heap.size, 2, none⟩) (show w.heap.size ≤ w1.heap.size by omega) (.int .i64 D')))
    simp only [List.setIfInBounds_toArray, List.set_cons_zero, List.set_cons_succ] at O3
    clear fz a0 a1 a2 c0 c1 c2
    generalize (w2.setCell ⟨w1.heap.size, 2, none⟩ (.int .i64 D')).drew = w4 at *
    have b0 := O3.cell 0
    have b1 := O3.cell 1
    have b2 := O3.cell 2
    simp at b0 b1 b2
    have r0 := R3.out.cell 0
    have r1 := R3.out.cell 1
    have r2 := R3.out.cell 2
    have f0 := R3.out.frozen 0
    have f1 := R3.out.frozen 1
    have f2 := R3.out.frozen 2
    simp at r0 r1 r2
    clear O3 O2 R2 B2
    go_wp2_with fail
    have RR := ((R3.out.set_ 0 (.int .i64 (t / 12 + 1))).set_ 1 (.int .i64 (t % 12 + 1))).set_ 2 (.int .i64 D')
    have k0 := RR.cell 0
    have k1 := RR.cell 1
    have k2 := RR.cell 2
    simp at k0 k1 k2
    refine bodyPost_ret (by simp [results, Tryd.results65, go_sem, k0, k1, k2]; try rfl) rfl ?_
    exact ⟨by rw [HD.out], bset (bset (bset B3.out (p := ⟨w.heap.size + 1, 0, none⟩) (by simp) _) (p := ⟨w.heap.size + 1, 1, none⟩) (by simp) _) (p := ⟨w.heap.size + 1, 2, none⟩) (by simp) _⟩
set_option maxRecDepth 100000 in
set_option maxHeartbeats 4000000 in
theorem impl_mp_no (y mo d k : Int) (w : World) (hM : MD w) (hv : vld y mo d = true) (hk : 0 ≤ k) (hk2 : k ≤ 200000) (ht : 119987 < mT y mo k) :
    Calls Tryd.prog 65 #[.agg #[.int .i64 y, .int .i64 mo, .int .i64 d], .int .i64 k] w fun e w' => e = .returned (.tuple #[.agg #[.int .i64 0, .int .i64 0, .int .i64 0], .bool false]) ∧ Below w.heap.size w w' := by
  obtain ⟨h1, h2, h3, h4, h5, h6⟩ := vld_iff.1 hv
  have hdb := dim_bd y mo
  obtain ⟨t, et⟩ : ∃ t, t = mT y mo k := ⟨_, rfl⟩
  have et' : t = 12 * (y - 1) + mo - 1 + k := et
  rw [← et] at ht
  have ES := et'.symm
  have q1 : ¬ t < 0 := by omega
  have q2 : 9999 ≤ t / 12 := by omega
  have D0 := hide ((Blk.new w 34 #[.int .i64 y, .int .i64 mo, .int .i64 d]).alloc (.cells #[.int .i64 0, .int .i64 0, .int .i64 0] 34))
  have R0 := hide (Blk.newE (W := w.alloc (.cells #[.int .i64 y, .int .i64 mo, .int .i64 d] 34)) (g := w.heap.size + 1) (t := 34) (cs := #[.int .i64 0, .int .i64 0, .int .i64 0]) (by simp))
  have B0 := hide (bal (bal (Below.refl w.heap.size w) (.cells #[.int .i64 y, .int .i64 mo, .int .i64 d] 34)) (.cells #[.int .i64 0, .int .i64 0, .int .i64 0] 34))
  have HV := hide hv
  clear et et' hv
  go_enter Tryd.func65, Tryd.ntmps65
  go_wp2_with fail
  refine (impl_dateValid y mo d _ (hM.below B0.out)).mono ?_
  rintro e w1 ⟨rfl, hb1⟩
  rw [HV.out]
  have D1 := hide (D0.out.below hb1 D0.out.lt)
  have R1 := hide (R0.out.below hb1 R0.out.lt)
  have B1 := hide (bto B0.out hb1)
  have hl1 := R1.out.lt
  clear D0 R0 B0 hb1
  have c0 := D1.out.cell 0
  have c1 := D1.out.cell 1
  have r0 := R1.out.cell 0
  have r1 := R1.out.cell 1
  have r2 := R1.out.cell 2
  have f0 := R1.out.frozen 0
  have f1 := R1.out.frozen 1
  have f2 := R1.out.frozen 2
  simp at c0 c1 r0 r1 r2
  have RR := ((R1.out.set_ 0 (.int .i64 0)).set_ 1 (.int .i64 0)).set_ 2 (.int .i64 0)
  have k0 := RR.cell 0
  have k1 := RR.cell 1
  have k2 := RR.cell 2
  simp at k0 k1 k2
  have BB := hide (bset (bset (bset B1.out (p := ⟨w.heap.size + 1, 0, none⟩) (by simp) (.int .i64 0)) (p := ⟨w.heap.size + 1, 1, none⟩) (by simp) (.int .i64 0)) (p := ⟨w.heap.size + 1, 2, none⟩) (by simp) (.int .i64 0))
  clear D1 R1 B1 RR
  cases hi : inB k (-119988) 119988 with
  | false =>
    go_wp2_with (go_at_call 33; refine (within_any _ _ _ _).mono ?_; rintro e w' ⟨rfl, rfl⟩)
    refine bodyPost_ret (by simp [results, Tryd.results65, go_sem, k0, k1, k2]; try rfl) rfl ?_
    exact ⟨rfl, BB.out⟩
  | true =>
    go_wp2_with (go_at_call 33; refine (within_any _ _ _ _).mono ?_; rintro e w' ⟨rfl, rfl⟩)
    refine bodyPost_ret (by simp [results, Tryd.results65, go_sem, k0, k1, k2]; try rfl) rfl ?_
    exact ⟨rfl, BB.out⟩
set_option maxRecDepth 100000 in
set_option maxHeartbeats 4000000 in
theorem impl_dp_yes (y mo d k : Int) (w : World) (hM : MD w) (hv : vld y mo d = true) (hk : 0 ≤ k) (hk2 : num y mo d + k ≤ 3652058) :
    Calls Tryd.prog 69 #[.agg #[.int .i64 y, .int .i64 mo, .int .i64 d], .int .i64 k] w fun e w' => e = .returned (.tuple #[.agg #[.int .i64 (yOf (num y mo d + k)), .int .i64 (mOf (num y mo d + k)), .int .i64 (dOf (num y mo d + k))], .bool true]) ∧ Below w.heap.size w w' := by
  have hn := num_bd hv
  have hi := inB_true (show -3652058 ≤ k by omega) (show k ≤ 3652058 by omega)
  have D0 := hide ((Blk.new w 34 #[.int .i64 y, .int .i64 mo, .int .i64 d]).alloc (.cells #[.int .i64 0, .int .i64 0, .int .i64 0] 34))
  have R0 := hide (Blk.newE (W := w.alloc (.cells #[.int .i64 y, .int .i64 mo, .int .i64 d] 34)) (g := w.heap.size + 1) (t := 34) (cs := #[.int .i64 0, .int .i64 0, .int .i64 0]) (by simp))
  have B0 := hide (bal (bal (Below.refl w.heap.size w) (.cells #[.int .i64 y, .int .i64 mo, .int .i64 d] 34)) (.cells #[.int .i64 0, .int .i64 0, .int .i64 0] 34))
  have HV := hide hv
  clear hv
  go_enter Tryd.func69, Tryd.ntmps69
  go_wp2_with fail
  refine (impl_dateValid y mo d _ (hM.below B0.out)).mono ?_
  rintro e w1 ⟨rfl, hb1⟩
  rw [HV.out]
  have D1 := hide (D0.out.below hb1 D0.out.lt)
  have R1 := hide (R0.out.below hb1 R0.out.lt)
  have B1 := hide (bto B0.out hb1)
  clear D0 R0 B0 hb1
  have c0 := D1.out.cell 0
  have c1 := D1.out.cell 1
  have c2 := D1.out.cell 2
  simp at c0 c1 c2
  go_wp2_with (go_at_call 33; refine (within_any _ _ _ _).mono ?_; rintro e w' ⟨rfl, rfl⟩)
  refine (impl_number y mo d _ (hM.below B1.out) HV.out).mono ?_
  rintro e w2 ⟨rfl, hb2⟩
  have R2 := hide (R1.out.below hb2 R1.out.lt)
  have B2 := hide (bto B1.out hb2)
  clear D1 R1 B1 hb2 c0 c1 c2
  generalize hN : num y mo d = N at *
  have HN := hide hN
  clear hN
  go_wp2_with fail
  refine (impl_dateOf_yes (N + k) _ (hM.below B2.out) (by omega) (by omega)).mono ?_
  rintro e w3 ⟨rfl, hb3⟩
  have R3 := hide (R2.out.below hb3 R2.out.lt)
  have B3 := hide (bto B2.out hb3)
  clear R2 B2 hb3
  have r0 := R3.out.cell 0
  have r1 := R3.out.cell 1
  have r2 := R3.out.cell 2
  have f0 := R3.out.frozen 0
  have f1 := R3.out.frozen 1
  have f2 := R3.out.frozen 2
  simp at r0 r1 r2
  have RR := ((R3.out.set_ 0 (.int .i64 (yOf (N + k)))).set_ 1 (.int .i64 (mOf (N + k)))).set_ 2 (.int .i64 (dOf (N + k)))
  have k0 := RR.cell 0
  have k1 := RR.cell 1
  have k2 := RR.cell 2
  simp at k0 k1 k2
  clear RR
  go_wp2_with fail
  refine bodyPost_ret (by simp [results, Tryd.results69, go_sem, k0, k1, k2]; try rfl) rfl ?_
  exact ⟨by rw [HN.out], bset (bset (bset B3.out (p := ⟨w.heap.size + 1, 0, none⟩) (by simp) _) (p := ⟨w.heap.size + 1, 1, none⟩) (by simp) _) (p := ⟨w.heap.size + 1, 2, none⟩) (by simp) _⟩
set_option maxRecDepth 100000 in
set_option maxHeartbeats 4000000 in
theorem impl_dp_no (y mo d k : Int) (w : World) (hM : MD w) (hv : vld y mo d = true) (hk : 0 ≤ k) (hk1 : k ≤ 9999) (hk2 : 3652058 < num y mo d + k) :
    Calls Tryd.prog 69 #[.agg #[.int .i64 y, .int .i64 mo, .int .i64 d], .int .i64 k] w fun e w' => e = .returned (.tuple #[.agg #[.int .i64 0, .int .i64 0, .int .i64 0], .bool false]) ∧ Below w.heap.size w w' := by
  have hn := num_bd hv
  have hi := inB_true (show -3652058 ≤ k by omega) (show k ≤ 3652058 by omega)
  have D0 := hide ((Blk.new w 34 #[.int .i64 y, .int .i64 mo, .int .i64 d]).alloc (.cells #[.int .i64 0, .int .i64 0, .int .i64 0] 34))
  have R0 := hide (Blk.newE (W := w.alloc (.cells #[.int .i64 y, .int .i64 mo, .int .i64 d] 34)) (g := w.heap.size + 1) (t := 34) (cs := #[.int .i64 0, .int .i64 0, .int .i64 0]) (by simp))
  have B0 := hide (bal (bal (Below.refl w.heap.size w) (.cells #[.int .i64 y, .int .i64 mo, .int .i64 d] 34)) (.cells #[.int .i64 0, .int .i64 0, .int .i64 0] 34))
  have HV := hide hv
  clear hv
  go_enter Tryd.func69, Tryd.ntmps69
  go_wp2_with fail
  refine (impl_dateValid y mo d _ (hM.below B0.out)).mono ?_
  rintro e w1 ⟨rfl, hb1⟩
  rw [HV.out]
  have D1 := hide (D0.out.below hb1 D0.out.lt)
  have R1 := hide (R0.out.below hb1 R0.out.lt)
  have B1 := hide (bto B0.out hb1)
  clear D0 R0 B0 hb1
  have c0 := D1.out.cell 0
  have c1 := D1.out.cell 1
  have c2 := D1.out.cell 2
  simp at c0 c1 c2
  go_wp2_with (go_at_call 33; refine (within_any _ _ _ _).mono ?_; rintro e w' ⟨rfl, rfl⟩)
  refine (impl_number y mo d _ (hM.below B1.out) HV.out).mono ?_
  rintro e w2 ⟨rfl, hb2⟩
  have R2 := hide (R1.out.below hb2 R1.out.lt)
  have B2 := hide (bto B1.out hb2)
  clear D1 R1 B1 hb2 c0 c1 c2
  generalize num y mo d = N at *
  go_wp2_with fail
  refine (impl_dateOf_no (N + k) _ (by omega)).mono ?_
  rintro e w3 ⟨rfl, hb3⟩
  have R3 := hide (R2.out.below hb3 R2.out.lt)
  have B3 := hide (bto B2.out hb3)
  clear R2 B2 hb3
  have r0 := R3.out.cell 0
  have r1 := R3.out.cell 1
  have r2 := R3.out.cell 2
  have f0 := R3.out.frozen 0
  have f1 := R3.out.frozen 1
  have f2 := R3.out.frozen 2
  simp at r0 r1 r2
  have RR := ((R3.out.set_ 0 (.int .i64 0)).set_ 1 (.int .i64 0)).set_ 2 (.int .i64 0)
  have k0 := RR.cell 0
  have k1 := RR.cell 1
  have k2 := RR.cell 2
  simp at k0 k1 k2
  clear RR
  go_wp2_with fail
  refine bodyPost_ret (by simp [results, Tryd.results69, go_sem, k0, k1, k2]; try rfl) rfl ?_
  exact ⟨rfl, bset (bset (bset B3.out (p := ⟨w.heap.size + 1, 0, none⟩) (by simp) _) (p := ⟨w.heap.size + 1, 1, none⟩) (by simp) _) (p := ⟨w.heap.size + 1, 2, none⟩) (by simp) _⟩
end Go.Proofs.YtaagomchjklgaaaDoor
