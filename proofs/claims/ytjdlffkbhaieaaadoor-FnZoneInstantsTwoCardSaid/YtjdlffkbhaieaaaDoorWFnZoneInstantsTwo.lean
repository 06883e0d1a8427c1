/- The law FnZoneInstantsTwo returns true. -/
import Derived.Test.YtjdlffkbhaieaaaDoorDrL3
import Derived.Test.YtjdlffkbhaieaaaDoorZi5
import Derived.Test.YtjdlffkbhaieaaaDoorZi6
import Derived.Test.YtjdlffkbhaieaaaDoorShellZ
import Derived.Test.YtjdlffkbhaieaaaDoorShellD
namespace Go.Proofs.YtjdlffkbhaieaaaDoor
open Go.RowKit
attribute [local go_sem] lt_cell

theorem zi_len (o : Int) (l : List R2) (y mo d h mi s ms : Int) : (ziV o l y mo d h mi s ms).length ≤ 2 := by
  cases hz : zdc o l y mo d h mi s ms with
  | false => rw [ziV_no hz]; simp
  | true =>
    obtain ⟨h1, h2, h3⟩ := zdc_in hz
    rw [ziV_yes h1 h2 h3]
    exact (insS_two (zv_of h1) _).1
theorem zi_two (o : Int) (l : List R2) (y mo d h mi s ms a c : Int) (he : ziV o l y mo d h mi s ms = [a, c]) : a < c ∧ c - a < 172800000 := by
  have hz := zi_in (o := o) (l := l) (y := y) (mo := mo) (d := d) (h := h) (mi := mi) (s := s) (ms := ms) (by rw [he]; simp)
  have := (insS_two (zv_of hz.1) (locOf y mo d h mi s ms)).2
  rw [← ziV_yes hz.1 hz.2.1 hz.2.2, he] at this
  exact this rfl

set_option maxRecDepth 100000 in
set_option maxHeartbeats 4000000 in
theorem w_FnZoneInstantsTwo (w : World) (hM : MD w) (A : Option Addr) (len cap : Nat) (hs : Src w.heap.size w A len) (hc : len ≤ cap) (hm : cap ≤ maxLen) :
    Calls Tryd.prog 5 #[.slice A len cap] w fun e w' => e = .returned (.bool true) ∧ Below w.heap.size w w' := by
  have hm' := hm
  unfold maxLen at hm'
  by_cases hbig : 1048576 < len
  · go_enter Tryd.func5, Tryd.ntmps5
    go_wp2_with fail
    go_ret
    exact ⟨rfl, Below.refl _ _⟩
  · go_enter Tryd.func5, Tryd.ntmps5
    go_wp2_with fail
    refine (drawZI hs (Nat.le_refl _) hc hm).mono ?_
    rintro e w1 ⟨o, b, cap1, l, y, mo, d, h, mi, s, ms, rfl, ho1, hl5, hb1⟩
    have P0 := Prs.own ho1
    have hcap := own_cap ho1
    have hcm : cap1 ≤ 9223372036854775807 := hcap.2
    have hlc : l.length ≤ cap1 := hcap.1
    have hM1 := hM.below hb1
    have X1 := hide (((Blk.new w1 36 #[.int .i64 o, .slice (some ⟨b, 0, none⟩) l.length cap1]).alloc (.cells #[.int .i64 y, .int .i64 mo, .int .i64 d] 27)).alloc (.cells #[.int .i64 h, .int .i64 mi, .int .i64 s, .int .i64 ms] 29))
    have Y1 := hide ((Blk.newE (W := w1.alloc (.cells #[.int .i64 o, .slice (some ⟨b, 0, none⟩) l.length cap1] 36)) (g := w1.heap.size + 1) (t := 27) (cs := #[.int .i64 y, .int .i64 mo, .int .i64 d]) (by simp)).alloc (.cells #[.int .i64 h, .int .i64 mi, .int .i64 s, .int .i64 ms] 29))
    have Z1 := hide (Blk.newE (W := (w1.alloc (.cells #[.int .i64 o, .slice (some ⟨b, 0, none⟩) l.length cap1] 36)).alloc (.cells #[.int .i64 y, .int .i64 mo, .int .i64 d] 27)) (g := w1.heap.size + 1 + 1) (t := 29) (cs := #[.int .i64 h, .int .i64 mi, .int .i64 s, .int .i64 ms]) (by simp))
    have B1 := bal (bal (bal (Below.refl w1.heap.size w1) (.cells #[.int .i64 o, .slice (some ⟨b, 0, none⟩) l.length cap1] 36)) (.cells #[.int .i64 y, .int .i64 mo, .int .i64 d] 27)) (.cells #[.int .i64 h, .int .i64 mi, .int .i64 s, .int .i64 ms] 29)
    have HB := hide hb1
    have PP := hide P0
    have HM1 := hide hM1
    clear ho1 hcap hs hb1 P0 hM1
    obtain ⟨L, eL⟩ : ∃ L, L = ziV o l y mo d h mi s ms := ⟨_, rfl⟩
    have EL := hide eL
    clear eL
    go_wp2_with fail
    refine (impl_zi o y mo d h mi s ms l _ cap1 w1.heap.size _ _ (HM1.out.below B1) rfl (PP.out.below B1) B1.size hlc hcm).mono ?_
    rintro e w2 ⟨A2, c2, rfl, i2, hn2, hc2, hb2⟩
    rw [← EL.out] at i2 hn2 ⊢
    have X2 := hide (X1.out.below hb2 X1.out.lt)
    have Y2 := hide (Y1.out.below hb2 Y1.out.lt)
    have Z2 := hide (Z1.out.below hb2 Z1.out.lt)
    have I2 := hide i2
    clear i2
    have B2 := bto B1 hb2
    clear hb2 X1 Y1 Z1
    have x0 := X2.out.cell 0
    have x1 := X2.out.cell 1
    have y0 := Y2.out.cell 0
    have y1 := Y2.out.cell 1
    have y2 := Y2.out.cell 2
    have z0 := Z2.out.cell 0
    have z1 := Z2.out.cell 1
    have z2 := Z2.out.cell 2
    have z3 := Z2.out.cell 3
    simp at x0 x1 y0 y1 y2 z0 z1 z2 z3
    have l2 := Z2.out.lt
    go_wp2_with fail
    refine (spec_zi o y mo d h mi s ms l _ cap1 w1.heap.size _ _ rfl (PP.out.below B2) B2.size).mono ?_
    rintro e w3 ⟨A3, c3, rfl, i3, hn3, hc3, hb3⟩
    rw [← EL.out] at i3 hn3 ⊢
    clear x0 x1 y0 y1 y2 z0 z1 z2 z3
    have X3 := hide (X2.out.below hb3 X2.out.lt)
    have Y3 := hide (Y2.out.below hb3 Y2.out.lt)
    have Z3 := hide (Z2.out.below hb3 Z2.out.lt)
    have I2b := hide (I2.out.below hb3)
    have I3 := hide i3
    clear i3 I2
    have B3 := bto B2 hb3
    clear hb3 X2 Y2 Z2
    have x0 := X3.out.cell 0
    have x1 := X3.out.cell 1
    have y0 := Y3.out.cell 0
    have y1 := Y3.out.cell 1
    have y2 := Y3.out.cell 2
    have z0 := Z3.out.cell 0
    have z1 := Z3.out.cell 1
    have z2 := Z3.out.cell 2
    have z3 := Z3.out.cell 3
    simp at x0 x1 y0 y1 y2 z0 z1 z2 z3
    have l3 := Z3.out.lt
    have hL7 : L.length ≤ 1048576 := by have := zi_len o l y mo d h mi s ms; rw [← EL.out] at this; omega
    go_wp2_with fail
    refine (sameInts_any L _ _ _ _ _ _ _ _ rfl I2b.out I3.out hL7).mono ?_
    rintro e w4 ⟨rfl, hb4⟩
    clear x0 x1 y0 y1 y2 z0 z1 z2 z3
    have X4 := hide (X3.out.below hb4 X3.out.lt)
    have Y4 := hide (Y3.out.below hb4 Y3.out.lt)
    have Z4 := hide (Z3.out.below hb4 Z3.out.lt)
    have I4 := hide (I2b.out.below hb4)
    have J4 := hide (I3.out.below hb4)
    clear I2b I3
    have B4 := bto B3 hb4
    clear hb4 X3 Y3 Z3
    have x0 := X4.out.cell 0
    have x1 := X4.out.cell 1
    have y0 := Y4.out.cell 0
    have y1 := Y4.out.cell 1
    have y2 := Y4.out.cell 2
    have z0 := Z4.out.cell 0
    have z1 := Z4.out.cell 1
    have z2 := Z4.out.cell 2
    have z3 := Z4.out.cell 3
    simp at x0 x1 y0 y1 y2 z0 z1 z2 z3
    have l4 := Z4.out.lt
    have hl2 := zi_len o l y mo d h mi s ms
    rw [← EL.out] at hl2
    match L, EL, I4, J4, hL7, hn2, hn3, hl2 with
    | [], EL, I4, J4, hL7, hn2, hn3, hl2 =>
      clear x0 x1 y0 y1 y2 z0 z1 z2 z3
      go_wp2_with fail
      refine region_below (by kernel_rfl) (by kernel_rfl) ?_
      repeat (go_big_quiet_step (fail))
      refine wpQuiet_nil ?_
      rintro wq ⟨⟨_, hq⟩, rfl⟩
      go_wp2
      go_ret
      exact ⟨rfl, bto HB.out (bto B4 hq)⟩
    | [a], EL, I4, J4, hL7, hn2, hn3, hl2 =>
      clear x0 x1 y0 y1 y2 z0 z1 z2 z3
      go_wp2_with fail
      refine region_below (by kernel_rfl) (by kernel_rfl) ?_
      repeat (go_big_quiet_step (fail))
      refine wpQuiet_nil ?_
      rintro wq ⟨⟨_, hq⟩, rfl⟩
      go_wp2
      go_ret
      exact ⟨rfl, bto HB.out (bto B4 hq)⟩
    | [a, c], EL, I4, J4, hL7, hn2, hn3, hl2 =>
      obtain ⟨t1, t2⟩ := zi_two _ _ _ _ _ _ _ _ _ _ _ EL.out.symm
      rcases I4.out.view with h0 | ⟨g, rfl, _, hg, hcc⟩
      · simp at h0
      have c0 := hcc 0 (by simp)
      have c1 := hcc 1 (by simp)
      simp at c0 c1
      have g1 : decide (a < c) = true := decide_eq_true t1
      have e1 : IntKind.i64.wrap (c - a) = c - a := IntWalk.i64_in _ (by omega)
      have g2 : decide (c - a < 172800000) = true := decide_eq_true t2
      clear x0 x1 y0 y1 y2 z0 z1 z2 z3 hcc
      go_wp2_with fail
      refine region_below (by kernel_rfl) (by kernel_rfl) ?_
      repeat (go_big_quiet_step (fail))
      refine wpQuiet_nil ?_
      rintro wq ⟨⟨_, hq⟩, rfl⟩
      go_wp2
      go_ret
      exact ⟨rfl, bto HB.out (bto B4 hq)⟩
end Go.Proofs.YtjdlffkbhaieaaaDoor
