/- Contracts: a date some months, some days later (the reference's). -/
import Derived.Test.YtaagomchjklgaaaDoorSf2
namespace Go.Proofs.YtaagomchjklgaaaDoor
open Go.RowKit

theorem spec_dnum (y mo d : Int) (w : World) (hv : vld y mo d = true) :
    Calls Tryd.prog 51 #[.agg #[.int .i64 y, .int .i64 mo, .int .i64 d]] w fun e w' => e = .returned (.int .i64 (num y mo d)) ∧ Below w.heap.size w w' := by
  have h := spec_dayNumber y mo d w
  rw [dnum_yes hv] at h
  exact h
theorem spec_sign (w : World) :
    Calls Tryd.prog 78 #[.bool false] w fun e w' => e = .returned (.int .i64 1) ∧ w = w' := by
  go_enter Tryd.func78, Tryd.ntmps78
  go_wp2
  go_ret
  exact ⟨rfl, rfl⟩

set_option maxRecDepth 100000 in
set_option maxHeartbeats 4000000 in
theorem spec_mp_yes (y mo d k : Int) (w : World) (hv : vld y mo d = true) (hk : 0 ≤ k) (ht : mT y mo k ≤ 119987) :
    Calls Tryd.prog 90 #[.agg #[.int .i64 y, .int .i64 mo, .int .i64 d], .int .i64 k] w fun e w' => e = .returned (.tuple #[.agg #[.int .i64 (mY (mT y mo k)), .int .i64 (mM (mT y mo k)), .int .i64 (mD (mT y mo k) d)], .bool true]) ∧ Below w.heap.size w w' := by
  obtain ⟨h1, h2, h3, h4, h5, h6⟩ := vld_iff.1 hv
  have hdb := dim_bd y mo
  obtain ⟨t, et⟩ : ∃ t, t = mT y mo k := ⟨_, rfl⟩
  have et' : t = 12 * (y - 1) + mo - 1 + k := et
  rw [← et] at ht ⊢
  have ht0 : 0 ≤ t := by omega
  have hmd := mds_m ht0 ht
  obtain ⟨D, eD⟩ : ∃ D, D = mds (t / 12 + 1) (t % 12 + 1) := ⟨_, rfl⟩
  have HD := hide (show mD t d = if D < d then D else d by rw [eD]; unfold mD; rw [← hmd]; rfl)
  replace eD := eD.symm
  clear hmd
  show Calls _ _ _ w fun e w' => e = .returned (.tuple #[.agg #[.int .i64 (t / 12 + 1), .int .i64 (t % 12 + 1), .int .i64 (mD t d)], .bool true]) ∧ Below w.heap.size w w'
  have hi := inB_true (show -119988 ≤ k by omega) (show k ≤ 119988 by omega)
  have D0 := hide ((Blk.new w 34 #[.int .i64 y, .int .i64 mo, .int .i64 d]).alloc (.cells #[.int .i64 0, .int .i64 0, .int .i64 0] 34))
  have R0 := hide (Blk.newE (W := w.alloc (.cells #[.int .i64 y, .int .i64 mo, .int .i64 d] 34)) (g := w.heap.size + 1) (t := 34) (cs := #[.int .i64 0, .int .i64 0, .int .i64 0]) (by simp))
  have B0 := hide (bal (bal (Below.refl w.heap.size w) (.cells #[.int .i64 y, .int .i64 mo, .int .i64 d] 34)) (.cells #[.int .i64 0, .int .i64 0, .int .i64 0] 34))
  obtain ⟨n, en⟩ : ∃ n, n = 12 * y + mo - 1 + k := ⟨_, rfl⟩
  have ES := en.symm
  have hi2 := inB_true (show 12 ≤ n by omega) (show n ≤ 119999 by omega)
  have en1 : n / 12 = t / 12 + 1 := by omega
  have en2 : n % 12 = t % 12 := by omega
  have HV := hide hv
  clear et et' hv en
  go_enter Tryd.func90, Tryd.ntmps90
  go_wp2_with fail
  refine (spec_dateValid y mo d _).mono ?_
  rintro e w1 ⟨rfl, hb1⟩
  rw [HV.out]
  have D1 := hide (D0.out.below hb1 D0.out.lt)
  have R1 := hide (R0.out.below hb1 R0.out.lt)
  have B1 := hide (bto B0.out hb1)
  have hl1 := R1.out.lt
  clear D0 R0 B0 hb1
  have c0 := D1.out.cell 0
  have c1 := D1.out.cell 1
  have c2 := D1.out.cell 2
  simp at c0 c1 c2
  go_wp2_with (go_at_call 32; refine (l6In_any _ _ _ _).mono ?_; rintro e w' ⟨rfl, rfl⟩)
  have B2 := hide (bal B1.out (.cells #[.int .i64 (t / 12 + 1), .int .i64 (t % 12 + 1), .int .i64 0] 34))
  have R2 := hide (R1.out.alloc (.cells #[.int .i64 (t / 12 + 1), .int .i64 (t % 12 + 1), .int .i64 0] 34))
  have O2 := hide (Blk.new w1 34 #[.int .i64 (t / 12 + 1), .int .i64 (t % 12 + 1), .int .i64 0])
  have D2 := hide (D1.out.alloc (.cells #[.int .i64 (t / 12 + 1), .int .i64 (t % 12 + 1), .int .i64 0] 34))
  clear D1 R1 B1 en1 en2 c0 c1 c2
  generalize w1.alloc (.cells #[.int .i64 (t / 12 + 1), .int .i64 (t % 12 + 1), .int .i64 0] 34) = w2 at *
  have c2 := D2.out.cell 2
  have a0 := O2.out.cell 0
  have a1 := O2.out.cell 1
  have a2 := O2.out.cell 2
  have fz := O2.out.frozen 2
  simp at a0 a1 a2 c2
  clear fz
  go_region_with (first | (go_simp; go_at_call 76; refine (spec_mds _ _ _).mono ?_; rintro e w3 ⟨rfl, hb3⟩; rw [eD]; have O3 := hide (O2.out.drew.below hb3 O2.out.drew.lt); have R3 := hide (R2.out.drew.below hb3 R2.out.drew.lt); have D3 := hide (D2.out.drew.below hb3 D2.out.drew.lt); have B3 := hide (bto (bdrew B2.out) hb3); have c3 := D3.out.cell 2; have g3 := O3.out.cell 2; have fz := O3.out.frozen 2; simp at c3 g3))
  all_goals
    generalize (if D < d then D else d) = D' at *
    have O4 := O3.out.set_ 2 (.int .i64 D')
    have R4 := hide (R3.out.far (p := ⟨w1.heap.size, 2, none⟩) (show w.heap.size + 1 ≠ w1.heap.size by omega) (.int .i64 D'))
    have B4 := hide (bset B3.out (p := ⟨w1.heap.size, 2, none⟩) (show w.heap.size ≤ w1.heap.size by omega) (.int .i64 D'))
    simp only [List.setIfInBounds_toArray, List.set_cons_zero, List.set_cons_succ] at O4
    clear fz a0 a1 a2 c2 c3 g3 O3 R3 B3 D3 hb3
    generalize w3.setCell ⟨w1.heap.size, 2, none⟩ (.int .i64 D') = w4 at *
    have b0 := O4.cell 0
    have b1 := O4.cell 1
    have b2 := O4.cell 2
    simp at b0 b1 b2
    have r0 := R4.out.cell 0
    have r1 := R4.out.cell 1
    have r2 := R4.out.cell 2
    have f0 := R4.out.frozen 0
    have f1 := R4.out.frozen 1
    have f2 := R4.out.frozen 2
    simp at r0 r1 r2
    clear O4 O2 R2 B2 D2
    go_wp2_with fail
    have RR := ((R4.out.set_ 0 (.int .i64 (t / 12 + 1))).set_ 1 (.int .i64 (t % 12 + 1))).set_ 2 (.int .i64 D')
    have k0 := RR.cell 0
    have k1 := RR.cell 1
    have k2 := RR.cell 2
    simp at k0 k1 k2
    refine bodyPost_ret (by simp [results, Tryd.results90, go_sem, k0, k1, k2]; try rfl) rfl ?_
    exact ⟨by rw [HD.out], bset (bset (bset B4.out (p := ⟨w.heap.size + 1, 0, none⟩) (by simp) _) (p := ⟨w.heap.size + 1, 1, none⟩) (by simp) _) (p := ⟨w.heap.size + 1, 2, none⟩) (by simp) _⟩
set_option maxRecDepth 100000 in
set_option maxHeartbeats 4000000 in
theorem spec_mp_no (y mo d k : Int) (w : World) (hv : vld y mo d = true) (hk : 0 ≤ k) (hk2 : k ≤ 200000) (ht : 119987 < mT y mo k) :
    Calls Tryd.prog 90 #[.agg #[.int .i64 y, .int .i64 mo, .int .i64 d], .int .i64 k] w fun e w' => e = .returned (.tuple #[.agg #[.int .i64 0, .int .i64 0, .int .i64 0], .bool false]) ∧ Below w.heap.size w w' := by
  obtain ⟨h1, h2, h3, h4, h5, h6⟩ := vld_iff.1 hv
  have hdb := dim_bd y mo
  obtain ⟨t, et⟩ : ∃ t, t = mT y mo k := ⟨_, rfl⟩
  have et' : t = 12 * (y - 1) + mo - 1 + k := et
  rw [← et] at ht
  obtain ⟨n, en⟩ : ∃ n, n = 12 * y + mo - 1 + k := ⟨_, rfl⟩
  have ES := en.symm
  have hi2 := inB_not.2 (show ¬ (12 ≤ n ∧ n ≤ 119999) by omega)
  have D0 := hide ((Blk.new w 34 #[.int .i64 y, .int .i64 mo, .int .i64 d]).alloc (.cells #[.int .i64 0, .int .i64 0, .int .i64 0] 34))
  have R0 := hide (Blk.newE (W := w.alloc (.cells #[.int .i64 y, .int .i64 mo, .int .i64 d] 34)) (g := w.heap.size + 1) (t := 34) (cs := #[.int .i64 0, .int .i64 0, .int .i64 0]) (by simp))
  have B0 := hide (bal (bal (Below.refl w.heap.size w) (.cells #[.int .i64 y, .int .i64 mo, .int .i64 d] 34)) (.cells #[.int .i64 0, .int .i64 0, .int .i64 0] 34))
  have HV := hide hv
  clear et et' hv en
  go_enter Tryd.func90, Tryd.ntmps90
  go_wp2_with fail
  refine (spec_dateValid y mo d _).mono ?_
  rintro e w1 ⟨rfl, hb1⟩
  rw [HV.out]
  have D1 := hide (D0.out.below hb1 D0.out.lt)
  have R1 := hide (R0.out.below hb1 R0.out.lt)
  have B1 := hide (bto B0.out hb1)
  have hl1 := R1.out.lt
  clear D0 R0 B0 hb1
  have c0 := D1.out.cell 0
  have c1 := D1.out.cell 1
  have r0 := R1.out.cell 0
  have r1 := R1.out.cell 1
  have r2 := R1.out.cell 2
  have f0 := R1.out.frozen 0
  have f1 := R1.out.frozen 1
  have f2 := R1.out.frozen 2
  simp at c0 c1 r0 r1 r2
  have RR := ((R1.out.set_ 0 (.int .i64 0)).set_ 1 (.int .i64 0)).set_ 2 (.int .i64 0)
  have k0 := RR.cell 0
  have k1 := RR.cell 1
  have k2 := RR.cell 2
  simp at k0 k1 k2
  have BB := hide (bset (bset (bset B1.out (p := ⟨w.heap.size + 1, 0, none⟩) (by simp) (.int .i64 0)) (p := ⟨w.heap.size + 1, 1, none⟩) (by simp) (.int .i64 0)) (p := ⟨w.heap.size + 1, 2, none⟩) (by simp) (.int .i64 0))
  clear D1 R1 B1 RR
  cases hi : inB k (-119988) 119988 with
  | false =>
    go_wp2_with (go_at_call 32; refine (l6In_any _ _ _ _).mono ?_; rintro e w' ⟨rfl, rfl⟩)
    refine bodyPost_ret (by simp [results, Tryd.results90, go_sem, k0, k1, k2]; try rfl) rfl ?_
    exact ⟨rfl, BB.out⟩
  | true =>
    go_wp2_with (go_at_call 32; refine (l6In_any _ _ _ _).mono ?_; rintro e w' ⟨rfl, rfl⟩)
    refine bodyPost_ret (by simp [results, Tryd.results90, go_sem, k0, k1, k2]; try rfl) rfl ?_
    exact ⟨rfl, BB.out⟩
set_option maxRecDepth 100000 in
set_option maxHeartbeats 4000000 in
theorem spec_dp_yes (y mo d k : Int) (w : World) (hv : vld y mo d = true) (hk : 0 ≤ k) (hk2 : num y mo d + k ≤ 3652058) :
    Calls Tryd.prog 91 #[.agg #[.int .i64 y, .int .i64 mo, .int .i64 d], .int .i64 k] w fun e w' => e = .returned (.tuple #[.agg #[.int .i64 (yOf (num y mo d + k)), .int .i64 (mOf (num y mo d + k)), .int .i64 (dOf (num y mo d + k))], .bool true]) ∧ Below w.heap.size w w' := by
  have hn := num_bd hv
  have hi := inB_true (show -3652058 ≤ k by omega) (show k ≤ 3652058 by omega)
  have D0 := hide ((Blk.new w 34 #[.int .i64 y, .int .i64 mo, .int .i64 d]).alloc (.cells #[.int .i64 0, .int .i64 0, .int .i64 0] 34))
  have R0 := hide (Blk.newE (W := w.alloc (.cells #[.int .i64 y, .int .i64 mo, .int .i64 d] 34)) (g := w.heap.size + 1) (t := 34) (cs := #[.int .i64 0, .int .i64 0, .int .i64 0]) (by simp))
  have B0 := hide (bal (bal (Below.refl w.heap.size w) (.cells #[.int .i64 y, .int .i64 mo, .int .i64 d] 34)) (.cells #[.int .i64 0, .int .i64 0, .int .i64 0] 34))
  have HV := hide hv
  clear hv
  go_enter Tryd.func91, Tryd.ntmps91
  go_wp2_with fail
  refine (spec_dateValid y mo d _).mono ?_
  rintro e w1 ⟨rfl, hb1⟩
  rw [HV.out]
  have D1 := hide (D0.out.below hb1 D0.out.lt)
  have R1 := hide (R0.out.below hb1 R0.out.lt)
  have B1 := hide (bto B0.out hb1)
  clear D0 R0 B0 hb1
  have c0 := D1.out.cell 0
  have c1 := D1.out.cell 1
  have c2 := D1.out.cell 2
  simp at c0 c1 c2
  go_wp2_with (go_at_call 32; refine (l6In_any _ _ _ _).mono ?_; rintro e w' ⟨rfl, rfl⟩)
  refine (spec_dnum y mo d _ HV.out).mono ?_
  rintro e w2 ⟨rfl, hb2⟩
  have R2 := hide (R1.out.below hb2 R1.out.lt)
  have B2 := hide (bto B1.out hb2)
  clear D1 R1 B1 hb2 c0 c1 c2
  generalize hN : num y mo d = N at *
  have HN := hide hN
  clear hN
  go_wp2_with fail
  refine (spec_dateOf_yes (N + k) _ (by omega) (by omega)).mono ?_
  rintro e w3 ⟨rfl, hb3⟩
  have R3 := hide (R2.out.below hb3 R2.out.lt)
  have B3 := hide (bto B2.out hb3)
  clear R2 B2 hb3
  have r0 := R3.out.cell 0
  have r1 := R3.out.cell 1
  have r2 := R3.out.cell 2
  have f0 := R3.out.frozen 0
  have f1 := R3.out.frozen 1
  have f2 := R3.out.frozen 2
  simp at r0 r1 r2
  have RR := ((R3.out.set_ 0 (.int .i64 (yOf (N + k)))).set_ 1 (.int .i64 (mOf (N + k)))).set_ 2 (.int .i64 (dOf (N + k)))
  have k0 := RR.cell 0
  have k1 := RR.cell 1
  have k2 := RR.cell 2
  simp at k0 k1 k2
  clear RR
  go_wp2_with fail
  refine bodyPost_ret (by simp [results, Tryd.results91, go_sem, k0, k1, k2]; try rfl) rfl ?_
  exact ⟨by rw [HN.out], bset (bset (bset B3.out (p := ⟨w.heap.size + 1, 0, none⟩) (by simp) _) (p := ⟨w.heap.size + 1, 1, none⟩) (by simp) _) (p := ⟨w.heap.size + 1, 2, none⟩) (by simp) _⟩
set_option maxRecDepth 100000 in
set_option maxHeartbeats 4000000 in
theorem spec_dp_no (y mo d k : Int) (w : World) (hv : vld y mo d = true) (hk : 0 ≤ k) (hk1 : k ≤ 9999) (hk2 : 3652058 < num y mo d + k) :
    Calls Tryd.prog 91 #[.agg #[.int .i64 y, .int .i64 mo, .int .i64 d], .int .i64 k] w fun e w' => e = .returned (.tuple #[.agg #[.int .i64 0, .int .i64 0, .int .i64 0], .bool false]) ∧ Below w.heap.size w w' := by
  have hn := num_bd hv
  have hi := inB_true (show -3652058 ≤ k by omega) (show k ≤ 3652058 by omega)
  have D0 := hide ((Blk.new w 34 #[.int .i64 y, .int .i64 mo, .int .i64 d]).alloc (.cells #[.int .i64 0, .int .i64 0, .int .i64 0] 34))
  have R0 := hide (Blk.newE (W := w.alloc (.cells #[.int .i64 y, .int .i64 mo, .int .i64 d] 34)) (g := w.heap.size + 1) (t := 34) (cs := #[.int .i64 0, .int .i64 0, .int .i64 0]) (by simp))
  have B0 := hide (bal (bal (Below.refl w.heap.size w) (.cells #[.int .i64 y, .int .i64 mo, .int .i64 d] 34)) (.cells #[.int .i64 0, .int .i64 0, .int .i64 0] 34))
  have HV := hide hv
  clear hv
  go_enter Tryd.func91, Tryd.ntmps91
  go_wp2_with fail
  refine (spec_dateValid y mo d _).mono ?_
  rintro e w1 ⟨rfl, hb1⟩
  rw [HV.out]
  have D1 := hide (D0.out.below hb1 D0.out.lt)
  have R1 := hide (R0.out.below hb1 R0.out.lt)
  have B1 := hide (bto B0.out hb1)
  clear D0 R0 B0 hb1
  have c0 := D1.out.cell 0
  have c1 := D1.out.cell 1
  have c2 := D1.out.cell 2
  simp at c0 c1 c2
  go_wp2_with (go_at_call 32; refine (l6In_any _ _ _ _).mono ?_; rintro e w' ⟨rfl, rfl⟩)
  refine (spec_dnum y mo d _ HV.out).mono ?_
  rintro e w2 ⟨rfl, hb2⟩
  have R2 := hide (R1.out.below hb2 R1.out.lt)
  have B2 := hide (bto B1.out hb2)
  clear D1 R1 B1 hb2 c0 c1 c2
  generalize num y mo d = N at *
  go_wp2_with fail
  refine (spec_dateOf_no (N + k) _ (by omega)).mono ?_
  rintro e w3 ⟨rfl, hb3⟩
  have R3 := hide (R2.out.below hb3 R2.out.lt)
  have B3 := hide (bto B2.out hb3)
  clear R2 B2 hb3
  have r0 := R3.out.cell 0
  have r1 := R3.out.cell 1
  have r2 := R3.out.cell 2
  have f0 := R3.out.frozen 0
  have f1 := R3.out.frozen 1
  have f2 := R3.out.frozen 2
  simp at r0 r1 r2
  have RR := ((R3.out.set_ 0 (.int .i64 0)).set_ 1 (.int .i64 0)).set_ 2 (.int .i64 0)
  have k0 := RR.cell 0
  have k1 := RR.cell 1
  have k2 := RR.cell 2
  simp at k0 k1 k2
  clear RR
  go_wp2_with fail
  refine bodyPost_ret (by simp [results, Tryd.results91, go_sem, k0, k1, k2]; try rfl) rfl ?_
  exact ⟨rfl, bset (bset (bset B3.out (p := ⟨w.heap.size + 1, 0, none⟩) (by simp) _) (p := ⟨w.heap.size + 1, 1, none⟩) (by simp) _) (p := ⟨w.heap.size + 1, 2, none⟩) (by simp) _⟩
end Go.Proofs.YtaagomchjklgaaaDoor
