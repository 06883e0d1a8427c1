/- Contracts: a stamp a period later (the program's). -/
import Derived.Test.YtaagomchjklgaaaDoorSf2
import Derived.Test.YtaagomchjklgaaaDoorSt4
import Derived.Test.YtaagomchjklgaaaDoorSt2
namespace Go.Proofs.YtaagomchjklgaaaDoor
open Go.RowKit

set_option maxRecDepth 100000 in
set_option maxHeartbeats 4000000 in
theorem thenC_any {bs bp bf bg : Nat} (y mo d p1 p2 p3 p4 p5 p6 : Int) (w : World) (hM : MD w) (hv : vld y mo d = true) (hp : pvB p1 p2 p3 p4 p5 p6 = true) (H : Shf w bs bp bf bg p1 p2 p3 p4 p5 p6) :
    Calls Tryd.prog 86 #[.agg #[.int .i64 y, .int .i64 mo, .int .i64 d], .pointer (some ⟨bf, 0, none⟩), .pointer (some ⟨bg, 0, none⟩)] w (RetD y mo d (12 * p1 + p2) p3 w) := by
  have hM0 := (hM.alloc (.cells #[.int .i64 y, .int .i64 mo, .int .i64 d] 34)).alloc (.cells #[.int .i64 0, .int .i64 0, .int .i64 0] 34)
  have H0 := hide ((H.alloc (.cells #[.int .i64 y, .int .i64 mo, .int .i64 d] 34)).alloc (.cells #[.int .i64 0, .int .i64 0, .int .i64 0] 34))
  have D0 := hide ((Blk.new w 34 #[.int .i64 y, .int .i64 mo, .int .i64 d]).alloc (.cells #[.int .i64 0, .int .i64 0, .int .i64 0] 34))
  have R0 := hide (Blk.newE (W := w.alloc (.cells #[.int .i64 y, .int .i64 mo, .int .i64 d] 34)) (g := w.heap.size + 1) (t := 34) (cs := #[.int .i64 0, .int .i64 0, .int .i64 0]) (by simp))
  have B0 := hide (bal (bal (Below.refl w.heap.size w) (.cells #[.int .i64 y, .int .i64 mo, .int .i64 d] 34)) (.cells #[.int .i64 0, .int .i64 0, .int .i64 0] 34))
  have HV := hide hv
  have HP := hide hp
  obtain ⟨wq, ewq⟩ : ∃ wq, wq = (w.alloc (.cells #[.int .i64 y, .int .i64 mo, .int .i64 d] 34)).alloc (.cells #[.int .i64 0, .int .i64 0, .int .i64 0] 34) := ⟨_, rfl⟩
  rw [← ewq] at H0 D0 R0 B0 hM0
  have s0 := H0.out.2.2.1.cell 0
  simp at s0
  rw [ewq] at s0
  clear hp hv H
  go_enter Tryd.func86, Tryd.ntmps86
  go_wp2_with fail
  rw [← ewq]
  clear s0 ewq
  refine (shift1_any y mo d p1 p2 p3 p4 p5 p6 _ hM0 HV.out HP.out H0.out).mono ?_
  rintro e w1 ⟨⟨a, b, c, ok, rfl, hr⟩, hb1⟩
  have hM1 := (hM0.below hb1).alloc (.cells #[.int .i64 a, .int .i64 b, .int .i64 c] 34)
  have H1 := hide ((H0.out.below hb1).alloc (.cells #[.int .i64 a, .int .i64 b, .int .i64 c] 34))
  have R1 := hide ((R0.out.below hb1 R0.out.lt).alloc (.cells #[.int .i64 a, .int .i64 b, .int .i64 c] 34))
  have E1 := hide (Blk.new w1 34 #[.int .i64 a, .int .i64 b, .int .i64 c])
  have B1 := hide (bal (bto B0.out hb1) (.cells #[.int .i64 a, .int .i64 b, .int .i64 c] 34))
  clear H0 D0 R0 B0 hM0 hb1
  obtain ⟨wq, ewq⟩ : ∃ wq, wq = w1.alloc (.cells #[.int .i64 a, .int .i64 b, .int .i64 c] 34) := ⟨_, rfl⟩
  rw [← ewq] at H1 R1 E1 B1 hM1
  cases ok with
  | false =>
    have r0 := R1.out.cell 0
    have r1 := R1.out.cell 1
    have r2 := R1.out.cell 2
    have f0 := R1.out.frozen 0
    have f1 := R1.out.frozen 1
    have f2 := R1.out.frozen 2
    simp at r0 r1 r2
    have RR := ((R1.out.set_ 0 (.int .i64 0)).set_ 1 (.int .i64 0)).set_ 2 (.int .i64 0)
    have k0 := RR.cell 0
    have k1 := RR.cell 1
    have k2 := RR.cell 2
    simp at k0 k1 k2
    have BB := hide (bset (bset (bset B1.out (p := ⟨w.heap.size + 1, 0, none⟩) (by simp) (.int .i64 0)) (p := ⟨w.heap.size + 1, 1, none⟩) (by simp) (.int .i64 0)) (p := ⟨w.heap.size + 1, 2, none⟩) (by simp) (.int .i64 0))
    rw [ewq] at r0 r1 r2 f0 f1 f2 k0 k1 k2 BB
    have HR := hide (show IsD y mo d (12 * p1 + p2) p3 0 0 0 false from by
      rcases hr.out with ⟨_, _, _, _, h⟩ | ⟨h, _⟩
      · simp at h
      · refine .inr ⟨?_, rfl, rfl, rfl, rfl⟩
        unfold dpB
        rw [decide_eq_false (by omega)]
        rfl)
    clear RR ewq R1 H1 E1 hM1
    go_wp2_with fail
    refine bodyPost_ret (by simp [results, Tryd.results86, go_sem, k0, k1, k2]; try rfl) rfl ?_
    exact ⟨⟨0, 0, 0, false, rfl, HR⟩, BB.out⟩
  | true =>
    have hr' : mT y mo (12 * p1 + p2) ≤ 119987 ∧ a = mY (mT y mo (12 * p1 + p2)) ∧ b = mM (mT y mo (12 * p1 + p2)) ∧ c = mD (mT y mo (12 * p1 + p2)) d := by
      rcases hr.out with ⟨h1, h2, h3, h4, _⟩ | ⟨_, _, _, _, h⟩
      · exact ⟨h1, h2, h3, h4⟩
      · simp at h
    obtain ⟨q1, q2, q3, q4⟩ := vld_iff.1 HV.out
    obtain ⟨pa1, pa2, pa3, pa4, pa5, pa6⟩ := pvB_iff.1 HP.out
    have ht0 : 0 ≤ mT y mo (12 * p1 + p2) := by unfold mT; omega
    have hv2 : vld a b c = true := by
      rw [hr'.2.1, hr'.2.2.1, hr'.2.2.2]
      exact mV ht0 hr'.1 q4.2.1
    have hn : num a b c = mN (mT y mo (12 * p1 + p2)) d := by
      rw [hr'.2.1, hr'.2.2.1, hr'.2.2.2]
      rfl
    have HV2 := hide hv2
    have HN := hide (show ∀ A B C ok, IsP a b c p3 A B C ok → IsD y mo d (12 * p1 + p2) p3 A B C ok from fun A B C ok h => by
      unfold IsP at h
      rw [hn] at h
      rcases h with ⟨h1, h2⟩ | ⟨h1, h2⟩
      · exact .inl ⟨dpB_iff.2 ⟨hr'.1, h1⟩, h2⟩
      · refine .inr ⟨?_, h2⟩
        unfold dpB
        rw [decide_eq_false (show ¬ (mN (mT y mo (12 * p1 + p2)) d + p3 ≤ 3652058) by omega)]
        simp)
    have g0 := H1.out.2.2.2.cell 0
    have e0 := E1.out.cell 0
    have e1 := E1.out.cell 1
    have e2 := E1.out.cell 2
    simp at g0 e0 e1 e2
    rw [ewq] at g0 e0 e1 e2
    clear hr hr' hv2 hn ht0 q1 q2 q3 q4 pa1 pa2 pa3 pa4 pa5 pa6
    go_wp2_with fail
    rw [← ewq]
    clear g0 e0 e1 e2 ewq
    refine (shift2_any a b c p1 p2 p3 p4 p5 p6 _ hM1 HV2.out HP.out H1.out).mono ?_
    rintro e w2 ⟨⟨A, B, C, ok, rfl, hr⟩, hb2⟩
    have R2 := hide (R1.out.below hb2 R1.out.lt)
    have B2 := hide (bto B1.out hb2)
    have r0 := R2.out.cell 0
    have r1 := R2.out.cell 1
    have r2 := R2.out.cell 2
    have f0 := R2.out.frozen 0
    have f1 := R2.out.frozen 1
    have f2 := R2.out.frozen 2
    simp at r0 r1 r2
    clear R1 B1 H1 E1 hM1 hb2
    go_wp2_with fail
    have RR := ((R2.out.set_ 0 (.int .i64 A)).set_ 1 (.int .i64 B)).set_ 2 (.int .i64 C)
    have k0 := RR.cell 0
    have k1 := RR.cell 1
    have k2 := RR.cell 2
    simp at k0 k1 k2
    refine bodyPost_ret (by simp [results, Tryd.results86, go_sem, k0, k1, k2]; try rfl) rfl ?_
    exact ⟨⟨A, B, C, ok, rfl, hide (HN.out A B C ok hr.out)⟩, bset (bset (bset B2.out (p := ⟨w.heap.size + 1, 0, none⟩) (by simp) _) (p := ⟨w.heap.size + 1, 1, none⟩) (by simp) _) (p := ⟨w.heap.size + 1, 2, none⟩) (by simp) _⟩
end Go.Proofs.YtaagomchjklgaaaDoor
