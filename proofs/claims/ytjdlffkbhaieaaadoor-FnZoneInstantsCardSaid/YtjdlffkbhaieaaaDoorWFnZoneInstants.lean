/- The law FnZoneInstants returns true. -/
import Derived.Test.YtjdlffkbhaieaaaDoorDrL3
import Derived.Test.YtjdlffkbhaieaaaDoorZi5
import Derived.Test.YtjdlffkbhaieaaaDoorZi6
import Derived.Test.YtjdlffkbhaieaaaDoorShellZ
import Derived.Test.YtjdlffkbhaieaaaDoorShellD
import Derived.Test.YtjdlffkbhaieaaaDoorZj
namespace Go.Proofs.YtjdlffkbhaieaaaDoor
open Go.RowKit
attribute [local go_sem] lt_cell

theorem zi_len (o : Int) (l : List R2) (y mo d h mi s ms : Int) : (ziV o l y mo d h mi s ms).length ≤ 2 := by
  cases hz : zdc o l y mo d h mi s ms with
  | false => rw [ziV_no hz]; simp
  | true =>
    obtain ⟨h1, h2, h3⟩ := zdc_in hz
    rw [ziV_yes h1 h2 h3]
    exact (insS_two (zv_of h1) _).1

set_option maxRecDepth 100000 in
set_option maxHeartbeats 4000000 in
theorem w_FnZoneInstants (w : World) (hM : MD w) (A : Option Addr) (len cap : Nat) (hs : Src w.heap.size w A len) (hc : len ≤ cap) (hm : cap ≤ maxLen) :
    Calls Tryd.prog 10 #[.slice A len cap] w fun e w' => e = .returned (.bool true) ∧ Below w.heap.size w w' := by
  have hm' := hm
  unfold maxLen at hm'
  by_cases hbig : 1048576 < len
  · go_enter Tryd.func10, Tryd.ntmps10
    go_wp2_with fail
    go_ret
    exact ⟨rfl, Below.refl _ _⟩
  · go_enter Tryd.func10, Tryd.ntmps10
    go_wp2_with fail
    refine (drawZI hs (Nat.le_refl _) hc hm).mono ?_
    rintro e w1 ⟨o, b, cap1, l, y, mo, d, h, mi, s, ms, rfl, ho1, hl5, hb1⟩
    have P0 := Prs.own ho1
    have hcap := own_cap ho1
    have hcm : cap1 ≤ 9223372036854775807 := hcap.2
    have hlc : l.length ≤ cap1 := hcap.1
    have hM1 := hM.below hb1
    have X1 := hide (((Blk.new w1 36 #[.int .i64 o, .slice (some ⟨b, 0, none⟩) l.length cap1]).alloc (.cells #[.int .i64 y, .int .i64 mo, .int .i64 d] 27)).alloc (.cells #[.int .i64 h, .int .i64 mi, .int .i64 s, .int .i64 ms] 29))
    have Y1 := hide ((Blk.newE (W := w1.alloc (.cells #[.int .i64 o, .slice (some ⟨b, 0, none⟩) l.length cap1] 36)) (g := w1.heap.size + 1) (t := 27) (cs := #[.int .i64 y, .int .i64 mo, .int .i64 d]) (by simp)).alloc (.cells #[.int .i64 h, .int .i64 mi, .int .i64 s, .int .i64 ms] 29))
    have Z1 := hide (Blk.newE (W := (w1.alloc (.cells #[.int .i64 o, .slice (some ⟨b, 0, none⟩) l.length cap1] 36)).alloc (.cells #[.int .i64 y, .int .i64 mo, .int .i64 d] 27)) (g := w1.heap.size + 1 + 1) (t := 29) (cs := #[.int .i64 h, .int .i64 mi, .int .i64 s, .int .i64 ms]) (by simp))
    have B1 := bal (bal (bal (Below.refl w1.heap.size w1) (.cells #[.int .i64 o, .slice (some ⟨b, 0, none⟩) l.length cap1] 36)) (.cells #[.int .i64 y, .int .i64 mo, .int .i64 d] 27)) (.cells #[.int .i64 h, .int .i64 mi, .int .i64 s, .int .i64 ms] 29)
    have HB := hide hb1
    have PP := hide P0
    have HM1 := hide hM1
    clear ho1 hcap hs hb1 P0 hM1
    obtain ⟨L, eL⟩ : ∃ L, L = ziV o l y mo d h mi s ms := ⟨_, rfl⟩
    have EL := hide eL
    clear eL
    go_wp2_with fail
    refine (impl_zi o y mo d h mi s ms l _ cap1 w1.heap.size _ _ (HM1.out.below B1) rfl (PP.out.below B1) B1.size hlc hcm).mono ?_
    rintro e w2 ⟨A2, c2, rfl, i2, hn2, hc2, hb2⟩
    rw [← EL.out] at i2 hn2 ⊢
    have X2 := hide (X1.out.below hb2 X1.out.lt)
    have Y2 := hide (Y1.out.below hb2 Y1.out.lt)
    have Z2 := hide (Z1.out.below hb2 Z1.out.lt)
    have I2 := hide i2
    clear i2
    have B2 := bto B1 hb2
    clear hb2 X1 Y1 Z1
    have x0 := X2.out.cell 0
    have x1 := X2.out.cell 1
    have y0 := Y2.out.cell 0
    have y1 := Y2.out.cell 1
    have y2 := Y2.out.cell 2
    have z0 := Z2.out.cell 0
    have z1 := Z2.out.cell 1
    have z2 := Z2.out.cell 2
    have z3 := Z2.out.cell 3
    simp at x0 x1 y0 y1 y2 z0 z1 z2 z3
    have l2 := Z2.out.lt
    go_wp2_with fail
    refine (spec_zi o y mo d h mi s ms l _ cap1 w1.heap.size _ _ rfl (PP.out.below B2) B2.size).mono ?_
    rintro e w3 ⟨A3, c3, rfl, i3, hn3, hc3, hb3⟩
    rw [← EL.out] at i3 hn3 ⊢
    clear x0 x1 y0 y1 y2 z0 z1 z2 z3
    have X3 := hide (X2.out.below hb3 X2.out.lt)
    have Y3 := hide (Y2.out.below hb3 Y2.out.lt)
    have Z3 := hide (Z2.out.below hb3 Z2.out.lt)
    have I2b := hide (I2.out.below hb3)
    have I3 := hide i3
    clear i3 I2
    have B3 := bto B2 hb3
    clear hb3 X2 Y2 Z2
    have x0 := X3.out.cell 0
    have x1 := X3.out.cell 1
    have y0 := Y3.out.cell 0
    have y1 := Y3.out.cell 1
    have y2 := Y3.out.cell 2
    have z0 := Z3.out.cell 0
    have z1 := Z3.out.cell 1
    have z2 := Z3.out.cell 2
    have z3 := Z3.out.cell 3
    simp at x0 x1 y0 y1 y2 z0 z1 z2 z3
    have l3 := Z3.out.lt
    have hL7 : L.length ≤ 1048576 := by have := zi_len o l y mo d h mi s ms; rw [← EL.out] at this; omega
    go_wp2_with fail
    refine (sameInts_any L _ _ _ _ _ _ _ _ rfl I2b.out I3.out hL7).mono ?_
    rintro e w4 ⟨rfl, hb4⟩
    clear x0 x1 y0 y1 y2 z0 z1 z2 z3
    have X4 := hide (X3.out.below hb4 X3.out.lt)
    have Y4 := hide (Y3.out.below hb4 Y3.out.lt)
    have Z4 := hide (Z3.out.below hb4 Z3.out.lt)
    have I4 := hide (I2b.out.below hb4)
    have J4 := hide (I3.out.below hb4)
    clear I2b I3
    have B4 := bto B3 hb4
    clear hb4 X3 Y3 Z3
    have x0 := X4.out.cell 0
    have x1 := X4.out.cell 1
    have y0 := Y4.out.cell 0
    have y1 := Y4.out.cell 1
    have y2 := Y4.out.cell 2
    have z0 := Z4.out.cell 0
    have z1 := Z4.out.cell 1
    have z2 := Z4.out.cell 2
    have z3 := Z4.out.cell 3
    simp at x0 x1 y0 y1 y2 z0 z1 z2 z3
    have l4 := Z4.out.lt
    have hl2 := zi_len o l y mo d h mi s ms
    rw [← EL.out] at hl2
    have HMem := hide (fun (k : Nat) (hk : k < L.length) => show zvB o l = true ∧ insB (L.getD k 0) = true ∧ S8.ok ⟨y, mo, d, h, mi, s, ms, offAt o l (L.getD k 0)⟩ = true ∧ S8.ins ⟨y, mo, d, h, mi, s, ms, offAt o l (L.getD k 0)⟩ = L.getD k 0 by
      obtain ⟨q1, q2, q3⟩ := zi_in (o := o) (l := l) (y := y) (mo := mo) (d := d) (h := h) (mi := mi) (s := s) (ms := ms) (by rw [← EL.out]; omega)
      exact ⟨q1, zi_mem q1 q2 q3 (by rw [← EL.out]; exact getD_mem hk)⟩)
    clear EL x0 x1 y0 y1 y2 z0 z1 z2 z3 J4
    go_wp2_with fail
    go_loopw [8] (fun i wr => ∃ k : Nat, k ≤ L.length ∧ i = .int .i64 k ∧ Hid (Below w4.heap.size w4 wr)) (fun i _ => L.length - (intOf i).toNat)
    case atStart => exact ⟨0, by omega, rfl, hide (Below.refl _ _)⟩
    case round =>
      obtain ⟨k, hk, rfl, hb⟩ := hrel
      by_cases hlt : k < L.length
      · obtain ⟨m1, m2, m3, m4⟩ := HMem.out k hlt
        rcases I4.out.view with h0 | ⟨g, rfl, _, hg, hcc⟩
        · omega
        obtain ⟨x, ex⟩ : ∃ x, x = L.getD k 0 := ⟨_, rfl⟩
        have c0 := (hb.out.cell (p := ⟨g, k, none⟩) hg).trans (hcc k hlt)
        rw [← ex] at c0 m2 m3 m4
        have hgr : g < wr.heap.size := Nat.lt_of_lt_of_le hg hb.out.size
        have M1 := hide m1
        have M2 := hide m2
        have M3 := hide m3
        have M4 := hide m4
        have g1 : (x != x) = false := by simp
        have BR := bto B4 hb.out
        have XR := hide (X4.out.below hb.out X4.out.lt)
        have YR := hide (Y4.out.below hb.out Y4.out.lt)
        have ZR := hide (Z4.out.below hb.out Z4.out.lt)
        clear ex m1 m2 m3 m4 hcc
        go_wp2_with fail
        go_region_held3 (fun w' => w'.cell? ⟨w1.heap.size, 0, none⟩ = some (.int .i64 o) ∧ w'.cell? ⟨w1.heap.size, 1, none⟩ = some (.slice (some ⟨b, 0, none⟩) l.length cap1) ∧ w'.cell? ⟨g, k, none⟩ = some (.int .i64 x)) (first | exact ⟨XR.out.drew.cell 0, XR.out.drew.cell 1, c0⟩ | exact ⟨XS.cell 0, XS.cell 1, c1⟩) (first | (go_at_call 22; refine (impl_zo o x l _ _ w1.heap.size _ _ rfl (PP.out.below (bdrew BR)) BR.size hlc hcm).mono ?_; rintro e w5 ⟨rfl, hb5⟩; have XS := XR.out.drew.below hb5 XR.out.lt; have YS := hide (YR.out.drew.below hb5 YR.out.lt); have ZS := hide (ZR.out.drew.below hb5 ZR.out.lt); have c1 := (hb5.cell (p := ⟨g, k, none⟩) hgr).trans c0; rw [zoV_yes M1.out M2.out]))
        all_goals
          have BS := bto (bdrew BR) hb5
          have y0 := YS.out.cell 0
          have y1 := YS.out.cell 1
          have y2 := YS.out.cell 2
          have z0 := ZS.out.cell 0
          have z1 := ZS.out.cell 1
          have z2 := ZS.out.cell 2
          have z3 := ZS.out.cell 3
          simp at y0 y1 y2 z0 z1 z2 z3
          have hgs : g < w5.heap.size := Nat.lt_of_lt_of_le hgr hb5.size
          have HBR := hide (bto (bdrew hb.out) hb5)
          clear XS
          go_wp2_with fail
          refine (impl_instant ⟨y, mo, d, h, mi, s, ms, offAt o l x⟩ _ (HM1.out.below BS) M3.out).mono ?_
          rintro e w6 ⟨rfl, hb6⟩
          rw [M4.out]
          have c2 := (hb6.cell (p := ⟨g, k, none⟩) hgs).trans c1
          have HBS := hide (bto HBR.out hb6)
          clear y0 y1 y2 z0 z1 z2 z3 c0 c1 hb5 hb6 YS ZS XR YR ZR hb
          go_wp2
          go_roundw
          case rel => exact ⟨k + 1, by omega, by go_num, HBS⟩
          case measure => simp [intOf]; omega
      · obtain rfl : k = L.length := by omega
        go_wp2
        go_ret
        exact ⟨rfl, bto HB.out (bto B4 hb.out)⟩
end Go.Proofs.YtjdlffkbhaieaaaDoor
