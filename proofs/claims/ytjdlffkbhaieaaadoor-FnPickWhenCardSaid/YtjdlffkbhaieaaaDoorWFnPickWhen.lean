/- The law FnPickWhen returns true. -/
import Derived.Test.YtjdlffkbhaieaaaDoorDrL3
import Derived.Test.YtjdlffkbhaieaaaDoorZi5
import Derived.Test.YtjdlffkbhaieaaaDoorZi6
import Derived.Test.YtjdlffkbhaieaaaDoorShellZ
import Derived.Test.YtjdlffkbhaieaaaDoorShellD
namespace Go.Proofs.YtjdlffkbhaieaaaDoor
open Go.RowKit
attribute [local go_sem] lt_cell

theorem zp_ok {o : Int} {l : List R2} {y mo d h mi s ms : Int} {later : Bool} {v : Int} {ok : Bool} (he : zpV o l y mo d h mi s ms later = (v, ok)) : ok = (zvB o l && (vld y mo d && cvB h mi s ms)) := by
  cases hz : zdc o l y mo d h mi s ms with
  | false => rw [zpV_no hz] at he; rw [← (Prod.mk.inj he).2]; exact hz.symm
  | true =>
    obtain ⟨h1, h2, h3⟩ := zdc_in hz
    rw [zpV_yes h1 h2 h3] at he
    rw [← (Prod.mk.inj he).2]
    exact hz.symm

set_option maxRecDepth 100000 in
set_option maxHeartbeats 4000000 in
theorem w_FnPickWhen (w : World) (hM : MD w) (A : Option Addr) (len cap : Nat) (hs : Src w.heap.size w A len) (hc : len ≤ cap) (hm : cap ≤ maxLen) :
    Calls Tryd.prog 11 #[.slice A len cap] w fun e w' => e = .returned (.bool true) ∧ Below w.heap.size w w' := by
  have hm' := hm
  unfold maxLen at hm'
  by_cases hbig : 1048576 < len
  · go_enter Tryd.func11, Tryd.ntmps11
    go_wp2_with fail
    go_ret
    exact ⟨rfl, Below.refl _ _⟩
  · go_enter Tryd.func11, Tryd.ntmps11
    go_wp2_with fail
    refine (drawZP hs (Nat.le_refl _) hc hm).mono ?_
    rintro e w1 ⟨o, b, cap1, l, y, mo, d, h, mi, s, ms, later, rfl, ho1, hl5, hb1⟩
    have P0 := Prs.own ho1
    have hcap := own_cap ho1
    have hcm : cap1 ≤ 9223372036854775807 := hcap.2
    have hlc : l.length ≤ cap1 := hcap.1
    have hM1 := hM.below hb1
    have X1 := hide (((Blk.new w1 36 #[.int .i64 o, .slice (some ⟨b, 0, none⟩) l.length cap1]).alloc (.cells #[.int .i64 y, .int .i64 mo, .int .i64 d] 27)).alloc (.cells #[.int .i64 h, .int .i64 mi, .int .i64 s, .int .i64 ms] 29))
    have Y1 := hide ((Blk.newE (W := w1.alloc (.cells #[.int .i64 o, .slice (some ⟨b, 0, none⟩) l.length cap1] 36)) (g := w1.heap.size + 1) (t := 27) (cs := #[.int .i64 y, .int .i64 mo, .int .i64 d]) (by simp)).alloc (.cells #[.int .i64 h, .int .i64 mi, .int .i64 s, .int .i64 ms] 29))
    have Z1 := hide (Blk.newE (W := (w1.alloc (.cells #[.int .i64 o, .slice (some ⟨b, 0, none⟩) l.length cap1] 36)).alloc (.cells #[.int .i64 y, .int .i64 mo, .int .i64 d] 27)) (g := w1.heap.size + 1 + 1) (t := 29) (cs := #[.int .i64 h, .int .i64 mi, .int .i64 s, .int .i64 ms]) (by simp))
    have B1 := bal (bal (bal (Below.refl w1.heap.size w1) (.cells #[.int .i64 o, .slice (some ⟨b, 0, none⟩) l.length cap1] 36)) (.cells #[.int .i64 y, .int .i64 mo, .int .i64 d] 27)) (.cells #[.int .i64 h, .int .i64 mi, .int .i64 s, .int .i64 ms] 29)
    have HB := hide hb1
    have PP := hide P0
    have HM1 := hide hM1
    clear ho1 hcap hs hb1 P0 hM1
    obtain ⟨⟨v, ok⟩, ev⟩ : ∃ r, zpV o l y mo d h mi s ms later = r := ⟨_, rfl⟩
    have EV := hide ev
    have g1 : (ok != ok) = false := by simp
    have g2 : (v != v) = false := by simp
    have g3 : (v == v) = true := by simp
    clear ev
    go_wp2_with fail
    refine (impl_zp o y mo d h mi s ms later l _ cap1 w1.heap.size _ _ (HM1.out.below B1) rfl (PP.out.below B1) B1.size hlc hcm).mono ?_
    rintro e w2 ⟨rfl, hb2⟩
    rw [EV.out]
    have X2 := hide (X1.out.below hb2 X1.out.lt)
    have Y2 := hide (Y1.out.below hb2 Y1.out.lt)
    have Z2 := hide (Z1.out.below hb2 Z1.out.lt)
    have B2 := bto B1 hb2
    clear hb2 X1 Y1 Z1
    have x0 := X2.out.cell 0
    have x1 := X2.out.cell 1
    have y0 := Y2.out.cell 0
    have y1 := Y2.out.cell 1
    have y2 := Y2.out.cell 2
    have z0 := Z2.out.cell 0
    have z1 := Z2.out.cell 1
    have z2 := Z2.out.cell 2
    have z3 := Z2.out.cell 3
    simp at x0 x1 y0 y1 y2 z0 z1 z2 z3
    have l2 := Z2.out.lt
    go_wp2_with fail
    refine (spec_zp o y mo d h mi s ms later l _ cap1 w1.heap.size _ _ rfl (PP.out.below B2) B2.size).mono ?_
    rintro e w3 ⟨rfl, hb3⟩
    rw [EV.out]
    clear x0 x1 y0 y1 y2 z0 z1 z2 z3
    have X3 := hide (X2.out.below hb3 X2.out.lt)
    have Y3 := hide (Y2.out.below hb3 Y2.out.lt)
    have Z3 := hide (Z2.out.below hb3 Z2.out.lt)
    have B3 := bto B2 hb3
    clear hb3 X2 Y2 Z2
    have x0 := X3.out.cell 0
    have x1 := X3.out.cell 1
    have y0 := Y3.out.cell 0
    have y1 := Y3.out.cell 1
    have y2 := Y3.out.cell 2
    have z0 := Z3.out.cell 0
    have z1 := Z3.out.cell 1
    have z2 := Z3.out.cell 2
    have z3 := Z3.out.cell 3
    simp at x0 x1 y0 y1 y2 z0 z1 z2 z3
    have l3 := Z3.out.lt
    have HK := hide (zp_ok EV.out)
    clear g2 g3
    cases hz : zvB o l with
    | false =>
      have hk : Hid (ok = false) := hide (by rw [HK.out, hz]; rfl)
      have hk' := hk.out
      subst hk'
      go_wp2_with fail
      refine (impl_zv o l _ cap1 w1.heap.size _ _ rfl (PP.out.below B3) B3.size).mono ?_
      rintro e w4 ⟨rfl, hb4⟩
      rw [hz]
      go_wp2_with fail
      go_ret
      exact ⟨rfl, bto HB.out (bto B3 hb4)⟩
    | true =>
      have Hz := hide hz
      go_wp2_with fail
      refine (impl_zv o l _ cap1 w1.heap.size _ _ rfl (PP.out.below B3) B3.size).mono ?_
      rintro e w4 ⟨rfl, hb4⟩
      rw [hz]
      clear hz
      clear x0 x1 y0 y1 y2 z0 z1 z2 z3
      have X4 := hide (X3.out.below hb4 X3.out.lt)
      have Y4 := hide (Y3.out.below hb4 Y3.out.lt)
      have Z4 := hide (Z3.out.below hb4 Z3.out.lt)
      have B4 := bto B3 hb4
      clear hb4 X3 Y3 Z3
      have x0 := X4.out.cell 0
      have x1 := X4.out.cell 1
      have y0 := Y4.out.cell 0
      have y1 := Y4.out.cell 1
      have y2 := Y4.out.cell 2
      have z0 := Z4.out.cell 0
      have z1 := Z4.out.cell 1
      have z2 := Z4.out.cell 2
      have z3 := Z4.out.cell 3
      simp at x0 x1 y0 y1 y2 z0 z1 z2 z3
      have l4 := Z4.out.lt
      cases hv : vld y mo d with
      | false =>
        have hk' : ok = false := by rw [HK.out, Hz.out, hv]; rfl
        subst hk'
        go_wp2_with fail
        refine (impl_dateValid _ _ _ _ (HM1.out.below B4)).mono ?_
        rintro e w5 ⟨rfl, hb5⟩
        rw [hv]
        go_wp2_with fail
        go_ret
        exact ⟨rfl, bto HB.out (bto B4 hb5)⟩
      | true =>
        have Hv := hide hv
        go_wp2_with fail
        refine (impl_dateValid _ _ _ _ (HM1.out.below B4)).mono ?_
        rintro e w5 ⟨rfl, hb5⟩
        rw [hv]
        clear hv
        clear x0 x1 y0 y1 y2 z0 z1 z2 z3
        have X5 := hide (X4.out.below hb5 X4.out.lt)
        have Y5 := hide (Y4.out.below hb5 Y4.out.lt)
        have Z5 := hide (Z4.out.below hb5 Z4.out.lt)
        have B5 := bto B4 hb5
        clear hb5 X4 Y4 Z4
        have x0 := X5.out.cell 0
        have x1 := X5.out.cell 1
        have y0 := Y5.out.cell 0
        have y1 := Y5.out.cell 1
        have y2 := Y5.out.cell 2
        have z0 := Z5.out.cell 0
        have z1 := Z5.out.cell 1
        have z2 := Z5.out.cell 2
        have z3 := Z5.out.cell 3
        simp at x0 x1 y0 y1 y2 z0 z1 z2 z3
        have l5 := Z5.out.lt
        have hk' : ok = cvB h mi s ms := by rw [HK.out, Hz.out, Hv.out]; rfl
        clear HK
        subst hk'
        go_wp2_with fail
        refine (impl_cv _ _ _ _ _).mono ?_
        rintro e w6 ⟨rfl, hb6⟩
        have g4 : (cvB h mi s ms == cvB h mi s ms) = true := by simp
        generalize cvB h mi s ms = bb at g4
        go_wp2_with fail
        go_ret
        exact ⟨rfl, bto HB.out (bto B5 hb6)⟩
end Go.Proofs.YtjdlffkbhaieaaaDoor
