/- Contracts: a date a period later (the reference's). -/
import Derived.Test.YtaagomchjklgaaaDoorSg1
namespace Go.Proofs.YtaagomchjklgaaaDoor
open Go.RowKit

theorem spec_mp (y mo d k : Int) (w : World) (hv : vld y mo d = true) (hk : 0 ≤ k) (hk2 : k ≤ 200000) :
    Calls Tryd.prog 90 #[.agg #[.int .i64 y, .int .i64 mo, .int .i64 d], .int .i64 k] w (RetM y mo d k w) := by
  by_cases ht : mT y mo k ≤ 119987
  · exact (spec_mp_yes y mo d k w hv hk ht).mono fun e w' h => ⟨⟨_, _, _, _, h.1, hide (.inl ⟨ht, rfl, rfl, rfl, rfl⟩)⟩, h.2⟩
  · exact (spec_mp_no y mo d k w hv hk hk2 (by omega)).mono fun e w' h => ⟨⟨_, _, _, _, h.1, hide (.inr ⟨by omega, rfl, rfl, rfl, rfl⟩)⟩, h.2⟩
theorem spec_dp (y mo d k : Int) (w : World) (hv : vld y mo d = true) (hk : 0 ≤ k) (hk2 : k ≤ 9999) :
    Calls Tryd.prog 91 #[.agg #[.int .i64 y, .int .i64 mo, .int .i64 d], .int .i64 k] w (RetP y mo d k w) := by
  by_cases ht : num y mo d + k ≤ 3652058
  · exact (spec_dp_yes y mo d k w hv hk ht).mono fun e w' h => ⟨⟨_, _, _, _, h.1, hide (.inl ⟨ht, rfl, rfl, rfl, rfl⟩)⟩, h.2⟩
  · exact (spec_dp_no y mo d k w hv hk hk2 (by omega)).mono fun e w' h => ⟨⟨_, _, _, _, h.1, hide (.inr ⟨by omega, rfl, rfl, rfl, rfl⟩)⟩, h.2⟩
set_option maxRecDepth 100000 in
set_option maxHeartbeats 4000000 in
theorem spec_ld (y mo d p1 p2 p3 p4 p5 p6 : Int) (w : World) (hv : vld y mo d = true) (hp : pvB p1 p2 p3 p4 p5 p6 = true) :
    Calls Tryd.prog 77 #[.agg #[.int .i64 y, .int .i64 mo, .int .i64 d], .agg #[.int .i64 p1, .int .i64 p2, .int .i64 p3, .int .i64 p4, .int .i64 p5, .int .i64 p6], .int .i64 1] w (RetD y mo d (12 * p1 + p2) p3 w) := by
  obtain ⟨pa1, pa2, pa3, pa4, pa5, pa6⟩ := pvB_iff.1 hp
  have P0 := hide ((Blk.newE (W := w.alloc (.cells #[.int .i64 y, .int .i64 mo, .int .i64 d] 34)) (g := w.heap.size + 1) (t := 38) (cs := #[.int .i64 p1, .int .i64 p2, .int .i64 p3, .int .i64 p4, .int .i64 p5, .int .i64 p6]) (by simp)).alloc (.cells #[.int .i64 0, .int .i64 0, .int .i64 0] 34))
  have R0 := hide (Blk.newE (W := (w.alloc (.cells #[.int .i64 y, .int .i64 mo, .int .i64 d] 34)).alloc (.cells #[.int .i64 p1, .int .i64 p2, .int .i64 p3, .int .i64 p4, .int .i64 p5, .int .i64 p6] 38)) (g := w.heap.size + 1 + 1) (t := 34) (cs := #[.int .i64 0, .int .i64 0, .int .i64 0]) (by simp))
  have B0 := hide (bal (bal (bal (Below.refl w.heap.size w) (.cells #[.int .i64 y, .int .i64 mo, .int .i64 d] 34)) (.cells #[.int .i64 p1, .int .i64 p2, .int .i64 p3, .int .i64 p4, .int .i64 p5, .int .i64 p6] 38)) (.cells #[.int .i64 0, .int .i64 0, .int .i64 0] 34))
  have HV := hide hv
  have HP := hide hp
  have he : 12 * p1 + p2 ≤ 200000 := by omega
  have he0 : 0 ≤ 12 * p1 + p2 := by omega
  have hwr : IntKind.i64.wrap (12 * p1 + p2) = 12 * p1 + p2 := IntWalk.i64_in _ (by omega)
  have hwr3 : IntKind.i64.wrap p3 = p3 := IntWalk.i64_in _ (by omega)
  clear hp hv
  go_enter Tryd.func77, Tryd.ntmps77
  go_wp2_with fail
  refine (spec_mp y mo d (12 * p1 + p2) _ HV.out he0 he).mono ?_
  rintro e w1 ⟨⟨a, b, c, ok, rfl, hr⟩, hb1⟩
  have P1 := hide ((P0.out.below hb1 P0.out.lt).alloc (.cells #[.int .i64 a, .int .i64 b, .int .i64 c] 34))
  have R1 := hide ((R0.out.below hb1 R0.out.lt).alloc (.cells #[.int .i64 a, .int .i64 b, .int .i64 c] 34))
  have E1 := hide (Blk.new w1 34 #[.int .i64 a, .int .i64 b, .int .i64 c])
  have B1 := hide (bal (bto B0.out hb1) (.cells #[.int .i64 a, .int .i64 b, .int .i64 c] 34))
  clear P0 R0 B0 hb1
  obtain ⟨wq, ewq⟩ : ∃ wq, wq = w1.alloc (.cells #[.int .i64 a, .int .i64 b, .int .i64 c] 34) := ⟨_, rfl⟩
  rw [← ewq] at P1 R1 E1 B1
  cases ok with
  | false =>
    have r0 := R1.out.cell 0
    have r1 := R1.out.cell 1
    have r2 := R1.out.cell 2
    have f0 := R1.out.frozen 0
    have f1 := R1.out.frozen 1
    have f2 := R1.out.frozen 2
    simp at r0 r1 r2
    have RR := ((R1.out.set_ 0 (.int .i64 0)).set_ 1 (.int .i64 0)).set_ 2 (.int .i64 0)
    have k0 := RR.cell 0
    have k1 := RR.cell 1
    have k2 := RR.cell 2
    simp at k0 k1 k2
    have BB := hide (bset (bset (bset B1.out (p := ⟨w.heap.size + 1 + 1, 0, none⟩) (show w.heap.size ≤ w.heap.size + 1 + 1 by omega) (.int .i64 0)) (p := ⟨w.heap.size + 1 + 1, 1, none⟩) (show w.heap.size ≤ w.heap.size + 1 + 1 by omega) (.int .i64 0)) (p := ⟨w.heap.size + 1 + 1, 2, none⟩) (show w.heap.size ≤ w.heap.size + 1 + 1 by omega) (.int .i64 0))
    rw [ewq] at r0 r1 r2 f0 f1 f2 k0 k1 k2 BB
    have HR := hide (show IsD y mo d (12 * p1 + p2) p3 0 0 0 false from by
      rcases hr.out with ⟨_, _, _, _, h⟩ | ⟨h, _⟩
      · simp at h
      · refine .inr ⟨?_, rfl, rfl, rfl, rfl⟩
        unfold dpB
        rw [decide_eq_false (by omega)]
        rfl)
    clear RR ewq R1 P1 E1
    go_wp2_with fail
    refine bodyPost_ret (by simp [results, Tryd.results77, go_sem, k0, k1, k2]; try rfl) rfl ?_
    exact ⟨⟨0, 0, 0, false, rfl, HR⟩, BB.out⟩
  | true =>
    have hr' : mT y mo (12 * p1 + p2) ≤ 119987 ∧ a = mY (mT y mo (12 * p1 + p2)) ∧ b = mM (mT y mo (12 * p1 + p2)) ∧ c = mD (mT y mo (12 * p1 + p2)) d := by
      rcases hr.out with ⟨h1, h2, h3, h4, _⟩ | ⟨_, _, _, _, h⟩
      · exact ⟨h1, h2, h3, h4⟩
      · simp at h
    obtain ⟨q1, q2, q3, q4⟩ := vld_iff.1 HV.out
    have ht0 : 0 ≤ mT y mo (12 * p1 + p2) := by unfold mT; omega
    have hv2 : vld a b c = true := by
      rw [hr'.2.1, hr'.2.2.1, hr'.2.2.2]
      exact mV ht0 hr'.1 q4.2.1
    have hn : num a b c = mN (mT y mo (12 * p1 + p2)) d := by
      rw [hr'.2.1, hr'.2.2.1, hr'.2.2.2]
      rfl
    have HV2 := hide hv2
    have HN := hide (show ∀ A B C ok, IsP a b c p3 A B C ok → IsD y mo d (12 * p1 + p2) p3 A B C ok from fun A B C ok h => by
      unfold IsP at h
      rw [hn] at h
      rcases h with ⟨h1, h2⟩ | ⟨h1, h2⟩
      · exact .inl ⟨dpB_iff.2 ⟨hr'.1, h1⟩, h2⟩
      · refine .inr ⟨?_, h2⟩
        unfold dpB
        rw [decide_eq_false (show ¬ (mN (mT y mo (12 * p1 + p2)) d + p3 ≤ 3652058) by omega)]
        simp)
    have g2 := P1.out.cell 2
    have e0 := E1.out.cell 0
    have e1 := E1.out.cell 1
    have e2 := E1.out.cell 2
    simp at g2 e0 e1 e2
    rw [ewq] at g2 e0 e1 e2
    clear hr hr' hv2 hn ht0 q1 q2 q3 q4
    go_wp2_with fail
    rw [← ewq]
    clear g2 e0 e1 e2 ewq
    refine (spec_dp a b c p3 _ HV2.out pa3.1 pa3.2).mono ?_
    rintro e w2 ⟨⟨A, B, C, ok, rfl, hr⟩, hb2⟩
    have R2 := hide (R1.out.below hb2 R1.out.lt)
    have B2 := hide (bto B1.out hb2)
    have r0 := R2.out.cell 0
    have r1 := R2.out.cell 1
    have r2 := R2.out.cell 2
    have f0 := R2.out.frozen 0
    have f1 := R2.out.frozen 1
    have f2 := R2.out.frozen 2
    simp at r0 r1 r2
    clear R1 B1 P1 E1 hb2
    go_wp2_with fail
    have RR := ((R2.out.set_ 0 (.int .i64 A)).set_ 1 (.int .i64 B)).set_ 2 (.int .i64 C)
    have k0 := RR.cell 0
    have k1 := RR.cell 1
    have k2 := RR.cell 2
    simp at k0 k1 k2
    refine bodyPost_ret (by simp [results, Tryd.results77, go_sem, k0, k1, k2]; try rfl) rfl ?_
    exact ⟨⟨A, B, C, ok, rfl, hide (HN.out A B C ok hr.out)⟩, bset (bset (bset B2.out (p := ⟨w.heap.size + 1 + 1, 0, none⟩) (show w.heap.size ≤ w.heap.size + 1 + 1 by omega) _) (p := ⟨w.heap.size + 1 + 1, 1, none⟩) (show w.heap.size ≤ w.heap.size + 1 + 1 by omega) _) (p := ⟨w.heap.size + 1 + 1, 2, none⟩) (show w.heap.size ≤ w.heap.size + 1 + 1 by omega) _⟩
end Go.Proofs.YtaagomchjklgaaaDoor
