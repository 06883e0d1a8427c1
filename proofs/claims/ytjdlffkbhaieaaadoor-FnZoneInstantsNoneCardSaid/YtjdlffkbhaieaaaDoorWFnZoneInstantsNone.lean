/- The law FnZoneInstantsNone returns true. -/
import Derived.Test.YtjdlffkbhaieaaaDoorDrL3
import Derived.Test.YtjdlffkbhaieaaaDoorZi5
import Derived.Test.YtjdlffkbhaieaaaDoorZi6
import Derived.Test.YtjdlffkbhaieaaaDoorShellZ
import Derived.Test.YtjdlffkbhaieaaaDoorShellD
import Derived.Test.YtjdlffkbhaieaaaDoorZj
namespace Go.Proofs.YtjdlffkbhaieaaaDoor
open Go.RowKit
attribute [local go_sem] lt_cell

theorem zi_len (o : Int) (l : List R2) (y mo d h mi s ms : Int) : (ziV o l y mo d h mi s ms).length ≤ 2 := by
  cases hz : zdc o l y mo d h mi s ms with
  | false => rw [ziV_no hz]; simp
  | true =>
    obtain ⟨h1, h2, h3⟩ := zdc_in hz
    rw [ziV_yes h1 h2 h3]
    exact (insS_two (zv_of h1) _).1
theorem zi_none {o : Int} {l : List R2} {y mo d h mi s ms : Int} (h1 : zvB o l = true) (h2 : vld y mo d = true) (h3 : cvB h mi s ms = true) : ziV o [] y mo d h mi s ms = [S8.ins ⟨y, mo, d, h, mi, s, ms, o⟩] ∧ S8.ok ⟨y, mo, d, h, mi, s, ms, o⟩ = true := by
  have hZ := zv_of h1
  have ho := hZ.off 0 (by omega)
  rw [oA_0] at ho
  have h0 : zvB o [] = true := by
    unfold zvB
    rw [offB_iff.2 ho]
    rfl
  refine ⟨?_, ?_⟩
  · rw [ziV_yes h0 h2 h3]
    rfl
  · unfold S8.ok
    rw [show vld y mo d = true from h2, show cvB h mi s ms = true from h3, offB_iff.2 ho]
    rfl

set_option maxRecDepth 100000 in
set_option maxHeartbeats 4000000 in
theorem w_FnZoneInstantsNone (w : World) (hM : MD w) (A : Option Addr) (len cap : Nat) (hs : Src w.heap.size w A len) (hc : len ≤ cap) (hm : cap ≤ maxLen) :
    Calls Tryd.prog 8 #[.slice A len cap] w fun e w' => e = .returned (.bool true) ∧ Below w.heap.size w w' := by
  have hm' := hm
  unfold maxLen at hm'
  by_cases hbig : 1048576 < len
  · go_enter Tryd.func8, Tryd.ntmps8
    go_wp2_with fail
    go_ret
    exact ⟨rfl, Below.refl _ _⟩
  · go_enter Tryd.func8, Tryd.ntmps8
    go_wp2_with fail
    refine (drawZI hs (Nat.le_refl _) hc hm).mono ?_
    rintro e w1 ⟨o, b, cap1, l, y, mo, d, h, mi, s, ms, rfl, ho1, hl5, hb1⟩
    have P0 := Prs.own ho1
    have hcap := own_cap ho1
    have hcm : cap1 ≤ 9223372036854775807 := hcap.2
    have hlc : l.length ≤ cap1 := hcap.1
    have hM1 := hM.below hb1
    have X1 := hide (((Blk.new w1 36 #[.int .i64 o, .slice (some ⟨b, 0, none⟩) l.length cap1]).alloc (.cells #[.int .i64 y, .int .i64 mo, .int .i64 d] 27)).alloc (.cells #[.int .i64 h, .int .i64 mi, .int .i64 s, .int .i64 ms] 29))
    have Y1 := hide ((Blk.newE (W := w1.alloc (.cells #[.int .i64 o, .slice (some ⟨b, 0, none⟩) l.length cap1] 36)) (g := w1.heap.size + 1) (t := 27) (cs := #[.int .i64 y, .int .i64 mo, .int .i64 d]) (by simp)).alloc (.cells #[.int .i64 h, .int .i64 mi, .int .i64 s, .int .i64 ms] 29))
    have Z1 := hide (Blk.newE (W := (w1.alloc (.cells #[.int .i64 o, .slice (some ⟨b, 0, none⟩) l.length cap1] 36)).alloc (.cells #[.int .i64 y, .int .i64 mo, .int .i64 d] 27)) (g := w1.heap.size + 1 + 1) (t := 29) (cs := #[.int .i64 h, .int .i64 mi, .int .i64 s, .int .i64 ms]) (by simp))
    have B1 := bal (bal (bal (Below.refl w1.heap.size w1) (.cells #[.int .i64 o, .slice (some ⟨b, 0, none⟩) l.length cap1] 36)) (.cells #[.int .i64 y, .int .i64 mo, .int .i64 d] 27)) (.cells #[.int .i64 h, .int .i64 mi, .int .i64 s, .int .i64 ms] 29)
    have HB := hide hb1
    have PP := hide P0
    have HM1 := hide hM1
    clear ho1 hcap hs hb1 P0 hM1
    obtain ⟨L, eL⟩ : ∃ L, L = ziV o l y mo d h mi s ms := ⟨_, rfl⟩
    have EL := hide eL
    clear eL
    go_wp2_with fail
    refine (impl_zi o y mo d h mi s ms l _ cap1 w1.heap.size _ _ (HM1.out.below B1) rfl (PP.out.below B1) B1.size hlc hcm).mono ?_
    rintro e w2 ⟨A2, c2, rfl, i2, hn2, hc2, hb2⟩
    rw [← EL.out] at i2 hn2 ⊢
    have X2 := hide (X1.out.below hb2 X1.out.lt)
    have Y2 := hide (Y1.out.below hb2 Y1.out.lt)
    have Z2 := hide (Z1.out.below hb2 Z1.out.lt)
    have I2 := hide i2
    clear i2
    have B2 := bto B1 hb2
    clear hb2 X1 Y1 Z1
    have x0 := X2.out.cell 0
    have x1 := X2.out.cell 1
    have y0 := Y2.out.cell 0
    have y1 := Y2.out.cell 1
    have y2 := Y2.out.cell 2
    have z0 := Z2.out.cell 0
    have z1 := Z2.out.cell 1
    have z2 := Z2.out.cell 2
    have z3 := Z2.out.cell 3
    simp at x0 x1 y0 y1 y2 z0 z1 z2 z3
    have l2 := Z2.out.lt
    go_wp2_with fail
    refine (spec_zi o y mo d h mi s ms l _ cap1 w1.heap.size _ _ rfl (PP.out.below B2) B2.size).mono ?_
    rintro e w3 ⟨A3, c3, rfl, i3, hn3, hc3, hb3⟩
    rw [← EL.out] at i3 hn3 ⊢
    clear x0 x1 y0 y1 y2 z0 z1 z2 z3
    have X3 := hide (X2.out.below hb3 X2.out.lt)
    have Y3 := hide (Y2.out.below hb3 Y2.out.lt)
    have Z3 := hide (Z2.out.below hb3 Z2.out.lt)
    have I2b := hide (I2.out.below hb3)
    have I3 := hide i3
    clear i3 I2
    have B3 := bto B2 hb3
    clear hb3 X2 Y2 Z2
    have x0 := X3.out.cell 0
    have x1 := X3.out.cell 1
    have y0 := Y3.out.cell 0
    have y1 := Y3.out.cell 1
    have y2 := Y3.out.cell 2
    have z0 := Z3.out.cell 0
    have z1 := Z3.out.cell 1
    have z2 := Z3.out.cell 2
    have z3 := Z3.out.cell 3
    simp at x0 x1 y0 y1 y2 z0 z1 z2 z3
    have l3 := Z3.out.lt
    have hL7 : L.length ≤ 1048576 := by have := zi_len o l y mo d h mi s ms; rw [← EL.out] at this; omega
    go_wp2_with fail
    refine (sameInts_any L _ _ _ _ _ _ _ _ rfl I2b.out I3.out hL7).mono ?_
    rintro e w4 ⟨rfl, hb4⟩
    clear x0 x1 y0 y1 y2 z0 z1 z2 z3
    have X4 := hide (X3.out.below hb4 X3.out.lt)
    have Y4 := hide (Y3.out.below hb4 Y3.out.lt)
    have Z4 := hide (Z3.out.below hb4 Z3.out.lt)
    have I4 := hide (I2b.out.below hb4)
    have J4 := hide (I3.out.below hb4)
    clear I2b I3
    have B4 := bto B3 hb4
    clear hb4 X3 Y3 Z3
    have x0 := X4.out.cell 0
    have x1 := X4.out.cell 1
    have y0 := Y4.out.cell 0
    have y1 := Y4.out.cell 1
    have y2 := Y4.out.cell 2
    have z0 := Z4.out.cell 0
    have z1 := Z4.out.cell 1
    have z2 := Z4.out.cell 2
    have z3 := Z4.out.cell 3
    simp at x0 x1 y0 y1 y2 z0 z1 z2 z3
    have l4 := Z4.out.lt
    cases hz : zvB o l with
    | false =>
      go_wp2_with fail
      refine (spec_zv o l _ cap1 w1.heap.size _ _ rfl (PP.out.below B4) B4.size).mono ?_
      rintro e w5 ⟨rfl, hb5⟩
      rw [hz]
      have I5 := hide (I4.out.below hb5)
      have J5 := hide (J4.out.below hb5)
      clear x0 x1 y0 y1 y2 z0 z1 z2 z3 hz I4 J4
      go_wp2_with fail
      refine (sameInts_any L _ _ _ _ _ _ _ _ rfl I5.out J5.out hL7).mono ?_
      rintro e w6 ⟨rfl, hb6⟩
      go_wp2_with fail
      go_ret
      exact ⟨rfl, bto HB.out (bto (bto B4 hb5) hb6)⟩
    | true =>
      have Hz := hide hz
      go_wp2_with fail
      refine (spec_zv o l _ cap1 w1.heap.size _ _ rfl (PP.out.below B4) B4.size).mono ?_
      rintro e w5 ⟨rfl, hb5⟩
      rw [hz]
      clear hz
      clear x0 x1 y0 y1 y2 z0 z1 z2 z3
      have X5 := hide (X4.out.below hb5 X4.out.lt)
      have Y5 := hide (Y4.out.below hb5 Y4.out.lt)
      have Z5 := hide (Z4.out.below hb5 Z4.out.lt)
      have I5 := hide (I4.out.below hb5)
      have J5 := hide (J4.out.below hb5)
      clear I4 J4
      have B5 := bto B4 hb5
      clear hb5 X4 Y4 Z4
      have x0 := X5.out.cell 0
      have x1 := X5.out.cell 1
      have y0 := Y5.out.cell 0
      have y1 := Y5.out.cell 1
      have y2 := Y5.out.cell 2
      have z0 := Z5.out.cell 0
      have z1 := Z5.out.cell 1
      have z2 := Z5.out.cell 2
      have z3 := Z5.out.cell 3
      simp at x0 x1 y0 y1 y2 z0 z1 z2 z3
      have l5 := Z5.out.lt
      cases hv : vld y mo d with
      | false =>
        go_wp2_with fail
        refine (spec_dateValid _ _ _ _).mono ?_
        rintro e w6 ⟨rfl, hb6⟩
        rw [hv]
        have I6 := hide (I5.out.below hb6)
        have J6 := hide (J5.out.below hb6)
        clear x0 x1 y0 y1 y2 z0 z1 z2 z3 hv I5 J5
        go_wp2_with fail
        refine (sameInts_any L _ _ _ _ _ _ _ _ rfl I6.out J6.out hL7).mono ?_
        rintro e w7 ⟨rfl, hb7⟩
        go_wp2_with fail
        go_ret
        exact ⟨rfl, bto HB.out (bto (bto B5 hb6) hb7)⟩
      | true =>
        have Hv := hide hv
        go_wp2_with fail
        refine (spec_dateValid _ _ _ _).mono ?_
        rintro e w6 ⟨rfl, hb6⟩
        rw [hv]
        clear hv
        clear x0 x1 y0 y1 y2 z0 z1 z2 z3
        have X6 := hide (X5.out.below hb6 X5.out.lt)
        have Y6 := hide (Y5.out.below hb6 Y5.out.lt)
        have Z6 := hide (Z5.out.below hb6 Z5.out.lt)
        have I6 := hide (I5.out.below hb6)
        have J6 := hide (J5.out.below hb6)
        clear I5 J5
        have B6 := bto B5 hb6
        clear hb6 X5 Y5 Z5
        have x0 := X6.out.cell 0
        have x1 := X6.out.cell 1
        have y0 := Y6.out.cell 0
        have y1 := Y6.out.cell 1
        have y2 := Y6.out.cell 2
        have z0 := Z6.out.cell 0
        have z1 := Z6.out.cell 1
        have z2 := Z6.out.cell 2
        have z3 := Z6.out.cell 3
        simp at x0 x1 y0 y1 y2 z0 z1 z2 z3
        have l6 := Z6.out.lt
        cases hcv : cvB h mi s ms with
        | false =>
          go_wp2_with fail
          refine (spec_cv _ _ _ _ _).mono ?_
          rintro e w7 ⟨rfl, hb7⟩
          rw [hcv]
          have I7 := hide (I6.out.below hb7)
          have J7 := hide (J6.out.below hb7)
          clear x0 x1 y0 y1 y2 z0 z1 z2 z3 hcv I6 J6
          go_wp2_with fail
          refine (sameInts_any L _ _ _ _ _ _ _ _ rfl I7.out J7.out hL7).mono ?_
          rintro e w8 ⟨rfl, hb8⟩
          go_wp2_with fail
          go_ret
          exact ⟨rfl, bto HB.out (bto (bto B6 hb7) hb8)⟩
        | true =>
          have Hcv := hide hcv
          go_wp2_with fail
          refine (spec_cv _ _ _ _ _).mono ?_
          rintro e w7 ⟨rfl, hb7⟩
          rw [hcv]
          clear hcv
          clear x0 x1 y0 y1 y2 z0 z1 z2 z3
          have X7 := hide (X6.out.below hb7 X6.out.lt)
          have Y7 := hide (Y6.out.below hb7 Y6.out.lt)
          have Z7 := hide (Z6.out.below hb7 Z6.out.lt)
          clear I6 J6
          have B7 := bto B6 hb7
          clear hb7 X6 Y6 Z6
          have x0 := X7.out.cell 0
          have x1 := X7.out.cell 1
          have y0 := Y7.out.cell 0
          have y1 := Y7.out.cell 1
          have y2 := Y7.out.cell 2
          have z0 := Z7.out.cell 0
          have z1 := Z7.out.cell 1
          have z2 := Z7.out.cell 2
          have z3 := Z7.out.cell 3
          simp at x0 x1 y0 y1 y2 z0 z1 z2 z3
          have l7 := Z7.out.lt
          obtain ⟨hn1, hn2'⟩ := zi_none Hz.out Hv.out Hcv.out
          have HN1 := hide hn1
          have HN2 := hide hn2'
          clear hn1 hn2'
          go_wp2_with fail
          refine (impl_zi o y mo d h mi s ms [] _ 0 0 none _ (HM1.out.below B7) rfl Prs.nil (Nat.zero_le _) (Nat.le_refl _) (by omega)).mono ?_
          rintro e w8 ⟨A8, c8, rfl, i8, hn8, hc8, hb8⟩
          rw [HN1.out] at i8 hn8 ⊢
          clear x0 x1 y0 y1 y2 z0 z1 z2 z3
          have X8 := hide (X7.out.below hb8 X7.out.lt)
          have Y8 := hide (Y7.out.below hb8 Y7.out.lt)
          have Z8 := hide (Z7.out.below hb8 Z7.out.lt)
          have I8 := hide i8
          clear i8
          have B8 := bto B7 hb8
          clear hb8 X7 Y7 Z7
          have x0 := X8.out.cell 0
          have x1 := X8.out.cell 1
          have y0 := Y8.out.cell 0
          have y1 := Y8.out.cell 1
          have y2 := Y8.out.cell 2
          have z0 := Z8.out.cell 0
          have z1 := Z8.out.cell 1
          have z2 := Z8.out.cell 2
          have z3 := Z8.out.cell 3
          simp at x0 x1 y0 y1 y2 z0 z1 z2 z3
          have l8 := Z8.out.lt
          go_wp2_with fail
          refine (impl_instant ⟨y, mo, d, h, mi, s, ms, o⟩ _ (HM1.out.below B8) HN2.out).mono ?_
          rintro e w9 ⟨rfl, hb9⟩
          obtain ⟨x, ex⟩ : ∃ x, x = S8.ins ⟨y, mo, d, h, mi, s, ms, o⟩ := ⟨_, rfl⟩
          rw [← ex] at I8 hn8 ⊢
          have I9 := hide ((I8.out.below hb9).alloc (.cells #[.int .i64 x] 3))
          have J9 := hide (show IRow (w9.alloc (.cells #[.int .i64 x] 3)) 0 (some ⟨w9.heap.size, 0, none⟩) [x] from .inr ⟨_, _, _, rfl, Nat.zero_le _, Blk.new _ _ _, fun i hi => by
            have : i = 0 := by simpa using hi
            subst this
            rfl⟩)
          have B9 := bal (bto B8 hb9) (.cells #[.int .i64 x] 3)
          clear x0 x1 y0 y1 y2 z0 z1 z2 z3 ex
          go_wp2_with fail
          refine (sameInts_any [x] _ _ _ _ _ _ _ _ rfl I9.out J9.out (by simp)).mono ?_
          rintro e w10 ⟨rfl, hb10⟩
          go_wp2_with fail
          go_ret
          exact ⟨rfl, bto HB.out (bto B9 hb10)⟩
end Go.Proofs.YtjdlffkbhaieaaaDoor
