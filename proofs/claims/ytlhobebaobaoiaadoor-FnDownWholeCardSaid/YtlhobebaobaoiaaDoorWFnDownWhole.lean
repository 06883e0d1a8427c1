/- The law FnDownWhole returns true. -/
import Derived.Test.YtlhobebaobaoiaaDoorSt6
import Derived.Test.YtlhobebaobaoiaaDoorSt7
import Derived.Test.YtlhobebaobaoiaaDoorDrS
import Derived.Test.YtlhobebaobaoiaaDoorShellD
namespace Go.Proofs.YtlhobebaobaoiaaDoor
open Go.RowKit

theorem impl_cm (h mi s ms : Int) (w : World) (hv : cvB h mi s ms = true) :
    Calls Tryd.prog 20 #[.agg #[.int .i64 h, .int .i64 mi, .int .i64 s, .int .i64 ms]] w fun e w' => e = .returned (.int .i64 (cms h mi s ms)) ∧ Below w.heap.size w w' := by
  have HV := hide hv
  have B0 := bal (Below.refl w.heap.size w) (.cells #[.int .i64 h, .int .i64 mi, .int .i64 s, .int .i64 ms] 29)
  have X0 := Blk.new w 29 #[.int .i64 h, .int .i64 mi, .int .i64 s, .int .i64 ms]
  clear hv
  go_enter Tryd.func20, Tryd.ntmps20
  go_wp2_with fail
  refine (impl_cv _ _ _ _ _).mono ?_
  rintro e w1 ⟨rfl, hb1⟩
  rw [HV.out]
  have X1 := X0.below hb1 X0.lt
  have k0 := X1.cell 0
  have k1 := X1.cell 1
  have k2 := X1.cell 2
  have k3 := X1.cell 3
  simp at k0 k1 k2 k3
  go_wp2_with fail
  refine (millis_any _ _ _ _ _ HV.out).mono ?_
  rintro e w2 ⟨rfl, hb2⟩
  go_wp2_with fail
  go_ret
  exact ⟨rfl, bto (bto B0 hb1) hb2⟩

set_option maxRecDepth 100000 in
set_option maxHeartbeats 2000000 in
theorem w_FnDownWhole (w : World) (hM : MD w) (A : Option Addr) (len cap : Nat) (hs : Src w.heap.size w A len) (hc : len ≤ cap) (hm : cap ≤ maxLen) :
    Calls Tryd.prog 7 #[.slice A len cap] w fun e w' => e = .returned (.bool true) ∧ Below w.heap.size w w' := by
  have hm' := hm
  unfold maxLen at hm'
  by_cases hbig : 1048576 < len
  · go_enter Tryd.func7, Tryd.ntmps7
    go_wp2_with fail
    go_ret
    exact ⟨rfl, Below.refl _ _⟩
  · go_enter Tryd.func7, Tryd.ntmps7
    go_wp2_with fail
    refine (drawSU hs (Nat.le_refl _) hc hm).mono ?_
    rintro e w1 ⟨⟨y, mo, d, h, mi, s, ms, o⟩, u, _, _, rfl, hb1⟩
    simp only [S8.v]
    have X1 := hide (Blk.new w1 31 #[.int .i64 y, .int .i64 mo, .int .i64 d, .int .i64 h, .int .i64 mi, .int .i64 s, .int .i64 ms, .int .i64 o])
    have B1 := bal hb1 (.cells #[.int .i64 y, .int .i64 mo, .int .i64 d, .int .i64 h, .int .i64 mi, .int .i64 s, .int .i64 ms, .int .i64 o] 31)
    obtain ⟨⟨⟨yr, mor, dr, hr, mir, sr, msr, or⟩, ok⟩, hrr⟩ : ∃ q, rnd dnW ⟨y, mo, d, h, mi, s, ms, o⟩ u = q := ⟨_, rfl⟩
    have HR := hide hrr
    clear hrr hs hc hm hb1
    go_wp2_with fail
    refine (impl_down ⟨y, mo, d, h, mi, s, ms, o⟩ u _ (hM.below B1)).mono ?_
    rintro e w2 ⟨rfl, hb2⟩
    rw [HR.out]
    simp only [S8.v]
    have B2 := bal (bto B1 hb2) (.cells #[.int .i64 yr, .int .i64 mor, .int .i64 dr, .int .i64 hr, .int .i64 mir, .int .i64 sr, .int .i64 msr, .int .i64 or] 31)
    have X2 := hide ((X1.out.below hb2 X1.out.lt).alloc (.cells #[.int .i64 yr, .int .i64 mor, .int .i64 dr, .int .i64 hr, .int .i64 mir, .int .i64 sr, .int .i64 msr, .int .i64 or] 31))
    have O2 := hide (Blk.new w2 31 #[.int .i64 yr, .int .i64 mor, .int .i64 dr, .int .i64 hr, .int .i64 mir, .int .i64 sr, .int .i64 msr, .int .i64 or])
    have hx2 := (X1.out.below hb2 X1.out.lt).lt
    clear X1 hb2 B1
    have x0 := X2.out.cell 0
    have x1 := X2.out.cell 1
    have x2 := X2.out.cell 2
    have x3 := X2.out.cell 3
    have x4 := X2.out.cell 4
    have x5 := X2.out.cell 5
    have x6 := X2.out.cell 6
    have x7 := X2.out.cell 7
    simp at x0 x1 x2 x3 x4 x5 x6 x7
    go_wp2_with fail
    refine (spec_down ⟨y, mo, d, h, mi, s, ms, o⟩ u _).mono ?_
    rintro e w3 ⟨rfl, hb3⟩
    rw [HR.out]
    simp only [S8.v]
    have B3 := bal (bto B2 hb3) (.cells #[.int .i64 yr, .int .i64 mor, .int .i64 dr, .int .i64 hr, .int .i64 mir, .int .i64 sr, .int .i64 msr, .int .i64 or] 31)
    have X3 := hide ((X2.out.below hb3 X2.out.lt).alloc (.cells #[.int .i64 yr, .int .i64 mor, .int .i64 dr, .int .i64 hr, .int .i64 mir, .int .i64 sr, .int .i64 msr, .int .i64 or] 31))
    have O3 := hide ((O2.out.below hb3 O2.out.lt).alloc (.cells #[.int .i64 yr, .int .i64 mor, .int .i64 dr, .int .i64 hr, .int .i64 mir, .int .i64 sr, .int .i64 msr, .int .i64 or] 31))
    have hx3 := (X2.out.below hb3 X2.out.lt).lt
    have ho3 := (O2.out.below hb3 O2.out.lt).lt
    clear X2 O2 hb3 B2
    clear x0 x1 x2 x3 x4 x5 x6 x7
    have o0 := O3.out.cell 0
    have o1 := O3.out.cell 1
    have o2 := O3.out.cell 2
    have o3 := O3.out.cell 3
    have o4 := O3.out.cell 4
    have o5 := O3.out.cell 5
    have o6 := O3.out.cell 6
    have o7 := O3.out.cell 7
    simp at o0 o1 o2 o3 o4 o5 o6 o7
    cases ok with
    | false =>
      go_wp2_with fail
      go_ret
      exact ⟨rfl, B3⟩
    | true =>
      have HA := hide (rnd_again HR.out)
      have hu := (rnd_dn HR.out).2.1
      have hyok := (rnd_dn HR.out).2.2.2.1
      have hcz : cms hr mir sr msr % u = 0 := (rnd_dn HR.out).2.2.2.2.2.2
      have hcv : cvB hr mir sr msr = true := (S8.ok_in hyok).2.1
      have hcb := cvB_bd hcv
      have hub := hide (unB_iff.1 hu)
      obtain ⟨_, _, _, _, _, _, _, _, hc0, hc1⟩ := hcb
      have Hcv := hide hcv
      obtain ⟨c, ec⟩ : ∃ c, c = cms hr mir sr msr := ⟨_, rfl⟩
      have hC : ∀ W : World, Calls Tryd.prog 20 #[.agg #[.int .i64 hr, .int .i64 mir, .int .i64 sr, .int .i64 msr]] W fun e w' => e = .returned (.int .i64 c) ∧ Below W.heap.size W w' := fun W => by rw [ec]; exact impl_cm _ _ _ _ W Hcv.out
      have hcz' := hide (show c % u = 0 by rw [ec]; exact hcz)
      rw [← ec] at hc0 hc1
      clear hcz hcv ec hyok hu
      go_wp2_with fail
      refine (impl_down ⟨yr, mor, dr, hr, mir, sr, msr, or⟩ u _ (hM.below B3)).mono ?_
      rintro e w4 ⟨rfl, hb4⟩
      rw [HA.out]
      simp only [S8.v]
      have B4 := bal (bto B3 hb4) (.cells #[.int .i64 yr, .int .i64 mor, .int .i64 dr, .int .i64 hr, .int .i64 mir, .int .i64 sr, .int .i64 msr, .int .i64 or] 31)
      have O4 := hide ((O3.out.below hb4 O3.out.lt).alloc (.cells #[.int .i64 yr, .int .i64 mor, .int .i64 dr, .int .i64 hr, .int .i64 mir, .int .i64 sr, .int .i64 msr, .int .i64 or] 31))
      have Z4 := hide (Blk.new w4 31 #[.int .i64 yr, .int .i64 mor, .int .i64 dr, .int .i64 hr, .int .i64 mir, .int .i64 sr, .int .i64 msr, .int .i64 or])
      have ho4 := (O3.out.below hb4 O3.out.lt).lt
      clear X3 O3 hb4 B3 o0 o1 o2 o3 o4 o5 o6 o7
      have o0 := O4.out.cell 0
      have o1 := O4.out.cell 1
      have o2 := O4.out.cell 2
      have o3 := O4.out.cell 3
      have o4 := O4.out.cell 4
      have o5 := O4.out.cell 5
      have o6 := O4.out.cell 6
      have o7 := O4.out.cell 7
      simp at o0 o1 o2 o3 o4 o5 o6 o7
      go_wp2_with fail
      refine (hC _).mono ?_
      rintro e w5 ⟨rfl, hb5⟩
      have O5 := hide (O4.out.below hb5 O4.out.lt)
      have Z5 := hide (Z4.out.below hb5 Z4.out.lt)
      have B5 := bto B4 hb5
      clear O4 Z4 hb5 B4 o0 o1 o2 o3 o4 o5 o6 o7
      have o0 := O5.out.cell 0
      have o1 := O5.out.cell 1
      have o2 := O5.out.cell 2
      have o3 := O5.out.cell 3
      have o4 := O5.out.cell 4
      have o5 := O5.out.cell 5
      have o6 := O5.out.cell 6
      have o7 := O5.out.cell 7
      simp at o0 o1 o2 o3 o4 o5 o6 o7
      have q0 := Z5.out.cell 0
      have q1 := Z5.out.cell 1
      have q2 := Z5.out.cell 2
      have q3 := Z5.out.cell 3
      have q4 := Z5.out.cell 4
      have q5 := Z5.out.cell 5
      have q6 := Z5.out.cell 6
      have q7 := Z5.out.cell 7
      simp at q0 q1 q2 q3 q4 q5 q6 q7
      have HB := hide B5
      have hcz := hcz'.out
      clear B5 hcz'
      rcases hub.out with rfl | rfl | rfl | rfl
      all_goals
        go_wp2_with fail
        go_ret
        exact ⟨rfl, HB.out⟩
end Go.Proofs.YtlhobebaobaoiaaDoor
