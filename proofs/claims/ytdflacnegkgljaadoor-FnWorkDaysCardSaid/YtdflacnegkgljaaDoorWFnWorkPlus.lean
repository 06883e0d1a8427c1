/- The law FnWorkPlus returns true. -/
import Derived.Test.YtdflacnegkgljaaDoorWFnWorkPlusLast
import Derived.Test.YtdflacnegkgljaaDoorWd4
namespace Go.Proofs.YtdflacnegkgljaaDoor
open Go.RowKit
attribute [local go_sem] lt_cell

theorem wdV_mk {x y : D3} {l : List D3} (h1 : vld3 x = true) (h2 : vld3 y = true) (h3 : hvB l = true) {k : Nat} (h4 : num3 y - num3 x = k) (h5 : k ≤ 1000) : wdV x y l = cnt (nums l) (num3 x) k := by
  unfold wdV
  rw [h1, h2, h3, h4, inB_true (by omega) (by omega)]
  simp
theorem wpv_key2 {y mo d n : Int} {l : List D3} {r1 r2 r3 : Int} {ok : Bool} (hV : WpV y mo d n l (r1, r2, r3) ok) (ho : ok = true) :
    vld y mo d = true ∧ vld r1 r2 r3 = true ∧ num y mo d ≤ num r1 r2 r3 ∧ (num r1 r2 r3 + 1 ≤ 3652058 → wdV (yOf (num y mo d + 1), mOf (num y mo d + 1), dOf (num y mo d + 1)) (yOf (num r1 r2 r3 + 1), mOf (num r1 r2 r3 + 1), dOf (num r1 r2 r3 + 1)) l = n) := by
  generalize hr : ((r1, r2, r3) : D3) = r at hV
  cases hV with
  | bad h => cases ho
  | no h1 h2 hn1 hn2 M hM hN => cases ho
  | zero h1 h2 h3 =>
    simp only [Prod.mk.injEq] at hr
    obtain ⟨rfl, rfl, rfl⟩ := hr
    have hb := num_bd h1
    refine ⟨h1, h1, Int.le_refl _, fun hN => ?_⟩
    have hd := dateD_in (n := num r1 r2 r3 + 1) (by omega) hN
    rw [wdV_mk (x := (yOf (num r1 r2 r3 + 1), mOf (num r1 r2 r3 + 1), dOf (num r1 r2 r3 + 1))) (y := (yOf (num r1 r2 r3 + 1), mOf (num r1 r2 r3 + 1), dOf (num r1 r2 r3 + 1))) (k := 0) hd.1 hd.1 h2 (by omega) (by omega), h3]
    rfl
  | yes h1 h2 hn1 hn2 k hk hN =>
    simp only [Prod.mk.injEq] at hr
    obtain ⟨rfl, rfl, rfl⟩ := hr
    have hb := num_bd h1
    have hd := dateD_in (n := num y mo d + 1 + k) (by omega) hk
    refine ⟨h1, hd.1, by rw [hd.2]; omega, fun hN' => ?_⟩
    rw [hd.2] at hN' ⊢
    have hx := dateD_in (n := num y mo d + 1) (by omega) (by omega)
    have hy := dateD_in (n := num y mo d + 1 + k + 1) (by omega) (by omega)
    have hf := cnt_few (nums l) (num y mo d + 1) k
    have hl := hvB_len h2
    have hn := hN.2
    rw [show (nums l).length = l.length by unfold nums; simp] at hf
    rw [wdV_mk (x := (yOf (num y mo d + 1), mOf (num y mo d + 1), dOf (num y mo d + 1))) (y := (yOf (num y mo d + 1 + k + 1), mOf (num y mo d + 1 + k + 1), dOf (num y mo d + 1 + k + 1))) (k := k + 1) hx.1 hy.1 h2 (by show num _ _ _ - num _ _ _ = _; rw [hx.2, hy.2]; omega) (by omega)]
    show ((cnt (nums l) (num _ _ _) (k + 1) : Nat) : Int) = n
    rw [hx.2, hN.cnt_succ]
    omega

set_option maxRecDepth 100000 in
set_option maxHeartbeats 2000000 in
theorem w_FnWorkPlus (w : World) (hM : MD w) (A : Option Addr) (len cap : Nat) (hs : Src w.heap.size w A len) (hc : len ≤ cap) (hm : cap ≤ maxLen) :
    Calls Tryd.prog 13 #[.slice A len cap] w fun e w' => e = .returned (.bool true) ∧ Below w.heap.size w w' := by
  have hm' := hm
  unfold maxLen at hm'
  by_cases hbig : 1048576 < len
  · go_enter Tryd.func13, Tryd.ntmps13
    go_wp2_with fail
    go_ret
    exact ⟨rfl, Below.refl _ _⟩
  · go_enter Tryd.func13, Tryd.ntmps13
    go_wp2_with fail
    refine (drawWP hs (Nat.le_refl _) hc hm).mono ?_
    rintro e w1 ⟨y, mo, d, n, b, cap1, l, rfl, ho1, hl6, hn1, hn2, hb1⟩
    obtain ⟨⟨r1, r2, r3⟩, ok, hV⟩ := wpv_ex y mo d n l
    have HV := hide hV
    have gb : (ok != ok) = false := by simp
    have HB2 := hide (bal hb1 (.cells #[.int .i64 y, .int .i64 mo, .int .i64 d] 25))
    have HO2 := hide (own_belowD ho1 (bal (Below.refl _ _) (.cells #[.int .i64 y, .int .i64 mo, .int .i64 d] 25)))
    have X2 := hide (Blk.new w1 25 #[.int .i64 y, .int .i64 mo, .int .i64 d])
    clear hV hs hc hm hm' ho1 hb1
    go_wp2_with fail
    refine (impl_wp y mo d n l _ _ (w1.alloc (.cells #[.int .i64 y, .int .i64 mo, .int .i64 d] 25)).heap.size _ _ (hM.below HB2.out) rfl (Drs.own HO2.out) (Nat.le_refl _) (by omega) _ _ HV.out).mono ?_
    rintro e w3 ⟨rfl, hb3⟩
    have HB3 := hide (bal (bto HB2.out hb3) (.cells #[.int .i64 r1, .int .i64 r2, .int .i64 r3] 25))
    have HO3 := hide (own_belowD HO2.out (bal hb3 (.cells #[.int .i64 r1, .int .i64 r2, .int .i64 r3] 25)))
    have X3 := hide ((X2.out.below hb3 X2.out.lt).alloc (.cells #[.int .i64 r1, .int .i64 r2, .int .i64 r3] 25))
    have Y3 := hide (Blk.new w3 25 #[.int .i64 r1, .int .i64 r2, .int .i64 r3])
    clear hb3 HB2 HO2 X2
    obtain ⟨c0, c1, c2⟩ := X3.out.cs3
    go_wp2_with fail
    refine (spec_wp y mo d n l _ _ (w3.alloc (.cells #[.int .i64 r1, .int .i64 r2, .int .i64 r3] 25)).heap.size _ _ rfl (Drs.own HO3.out) (Nat.le_refl _) (by omega) _ _ HV.out).mono ?_
    rintro e w4 ⟨rfl, hb4⟩
    have HB4 := hide (bal (bto HB3.out hb4) (.cells #[.int .i64 r1, .int .i64 r2, .int .i64 r3] 25))
    have HO4 := hide (own_belowD HO3.out (bal hb4 (.cells #[.int .i64 r1, .int .i64 r2, .int .i64 r3] 25)))
    have X4 := hide ((X3.out.below hb4 X3.out.lt).alloc (.cells #[.int .i64 r1, .int .i64 r2, .int .i64 r3] 25))
    have Y4 := hide ((Y3.out.below hb4 Y3.out.lt).alloc (.cells #[.int .i64 r1, .int .i64 r2, .int .i64 r3] 25))
    have Z4 := hide (Blk.new w4 25 #[.int .i64 r1, .int .i64 r2, .int .i64 r3])
    clear hb4 HB3 HO3 X3 Y3 c0 c1 c2
    obtain ⟨c0, c1, c2⟩ := Y4.out.cs3
    obtain ⟨d0, d1, d2⟩ := Z4.out.cs3
    cases ok with
    | false =>
      clear HV
      go_wp2_with fail
      go_ret
      exact ⟨rfl, HB4.out⟩
    | true =>
      obtain ⟨q1, q2, q3, q4⟩ := wpv_key2 HV.out rfl
      have hbd := num_bd q1
      have hbr := num_bd q2
      have hDN := impl_dayNumber r1 r2 r3 (w4.alloc (.cells #[.int .i64 r1, .int .i64 r2, .int .i64 r3] 25)) (hM.below HB4.out)
      rw [dnum_yes q2] at hDN
      have HK4 := hide q4
      have HQ1 := hide q1
      have HQ2 := hide q2
      clear q1 q2 q4 HV
      go_wp2_with fail
      refine hDN.mono ?_
      rintro e w5 ⟨rfl, hb5⟩
      have HB5 := hide (bto HB4.out hb5)
      have HO5 := hide (own_belowD HO4.out hb5)
      have X5 := hide (X4.out.below hb5 X4.out.lt)
      have Y5 := hide (Y4.out.below hb5 Y4.out.lt)
      have Z5 := hide (Z4.out.below hb5 Z4.out.lt)
      clear hb5 HB4 HO4 X4 Y4 Z4 c0 c1 c2 d0 d1 d2 hDN
      obtain ⟨c0, c1, c2⟩ := Y5.out.cs3
      obtain ⟨d0, d1, d2⟩ := Z5.out.cs3
      obtain ⟨e0, e1, e2⟩ := X5.out.cs3
      by_cases hmx : num r1 r2 r3 = 3652058
      · have g1 : (num r1 r2 r3 == 3652058) = true := by simp [hmx]
        clear hmx HK4
        go_wp2_with fail
        go_ret
        exact ⟨rfl, HB5.out⟩
      · have g1 : (num r1 r2 r3 == 3652058) = false := by simpa using hmx
        have HE := hide (HK4.out (by omega))
        have hi1 : num y mo d + 1 ≤ 3652058 := by omega
        have hi2 : num r1 r2 r3 + 1 ≤ 3652058 := by omega
        go_wp2_with fail
        refine (impl_dp_yes y mo d 1 _ (hM.below HB5.out) HQ1.out (by omega) hi1).mono ?_
        rintro e w6 ⟨rfl, hb6⟩
        have HB6 := hide (bal (bto HB5.out hb6) (.cells #[.int .i64 (yOf (num y mo d + 1)), .int .i64 (mOf (num y mo d + 1)), .int .i64 (dOf (num y mo d + 1))] 25))
        have HO6 := hide (own_belowD HO5.out (bal hb6 (.cells #[.int .i64 (yOf (num y mo d + 1)), .int .i64 (mOf (num y mo d + 1)), .int .i64 (dOf (num y mo d + 1))] 25)))
        have Y6 := hide ((Y5.out.below hb6 Y5.out.lt).alloc (.cells #[.int .i64 (yOf (num y mo d + 1)), .int .i64 (mOf (num y mo d + 1)), .int .i64 (dOf (num y mo d + 1))] 25))
        have P6 := hide (Blk.new w6 25 #[.int .i64 (yOf (num y mo d + 1)), .int .i64 (mOf (num y mo d + 1)), .int .i64 (dOf (num y mo d + 1))])
        clear hb6 HB5 HO5 X5 Y5 Z5 c0 c1 c2 d0 d1 d2 e0 e1 e2
        obtain ⟨c0, c1, c2⟩ := Y6.out.cs3
        go_wp2_with fail
        refine (impl_dp_yes r1 r2 r3 1 _ (hM.below HB6.out) HQ2.out (by omega) hi2).mono ?_
        rintro e w7 ⟨rfl, hb7⟩
        have HB7 := hide (bal (bto HB6.out hb7) (.cells #[.int .i64 (yOf (num r1 r2 r3 + 1)), .int .i64 (mOf (num r1 r2 r3 + 1)), .int .i64 (dOf (num r1 r2 r3 + 1))] 25))
        have HO7 := hide (own_belowD HO6.out (bal hb7 (.cells #[.int .i64 (yOf (num r1 r2 r3 + 1)), .int .i64 (mOf (num r1 r2 r3 + 1)), .int .i64 (dOf (num r1 r2 r3 + 1))] 25)))
        have P7 := hide ((P6.out.below hb7 P6.out.lt).alloc (.cells #[.int .i64 (yOf (num r1 r2 r3 + 1)), .int .i64 (mOf (num r1 r2 r3 + 1)), .int .i64 (dOf (num r1 r2 r3 + 1))] 25))
        have Q7 := hide (Blk.new w7 25 #[.int .i64 (yOf (num r1 r2 r3 + 1)), .int .i64 (mOf (num r1 r2 r3 + 1)), .int .i64 (dOf (num r1 r2 r3 + 1))])
        clear hb7 HB6 HO6 Y6 P6 c0 c1 c2
        obtain ⟨c0, c1, c2⟩ := P7.out.cs3
        obtain ⟨d0, d1, d2⟩ := Q7.out.cs3
        have hWD := impl_wd (yOf (num y mo d + 1)) (mOf (num y mo d + 1)) (dOf (num y mo d + 1)) (yOf (num r1 r2 r3 + 1)) (mOf (num r1 r2 r3 + 1)) (dOf (num r1 r2 r3 + 1)) l l.length cap1 (w7.alloc (.cells #[.int .i64 (yOf (num r1 r2 r3 + 1)), .int .i64 (mOf (num r1 r2 r3 + 1)), .int .i64 (dOf (num r1 r2 r3 + 1))] 25)).heap.size _ (w7.alloc (.cells #[.int .i64 (yOf (num r1 r2 r3 + 1)), .int .i64 (mOf (num r1 r2 r3 + 1)), .int .i64 (dOf (num r1 r2 r3 + 1))] 25)) (hM.below HB7.out) rfl (Drs.own HO7.out) (Nat.le_refl _) (by omega)
        rw [HE.out] at hWD
        clear hmx hi1 hi2 g1 HE HK4
        go_wp2_with fail
        refine hWD.mono ?_
        rintro e w8 ⟨rfl, hb8⟩
        have HB8 := hide (bto HB7.out hb8)
        clear hWD hb8 HB7 HO7 P7 Q7 c0 c1 c2 d0 d1 d2
        go_wp2_with fail
        go_ret
        exact ⟨rfl, HB8.out⟩
end Go.Proofs.YtdflacnegkgljaaDoor
