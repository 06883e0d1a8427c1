/- The law FnPickGap returns true. -/
import Derived.Test.YtjdlffkbhaieaaaDoorDrL3
import Derived.Test.YtjdlffkbhaieaaaDoorZi5
import Derived.Test.YtjdlffkbhaieaaaDoorZi6
import Derived.Test.YtjdlffkbhaieaaaDoorShellZ
import Derived.Test.YtjdlffkbhaieaaaDoorShellD
namespace Go.Proofs.YtjdlffkbhaieaaaDoor
open Go.RowKit
attribute [local go_sem] lt_cell

theorem zi_len (o : Int) (l : List R2) (y mo d h mi s ms : Int) : (ziV o l y mo d h mi s ms).length ≤ 2 := by
  cases hz : zdc o l y mo d h mi s ms with
  | false => rw [ziV_no hz]; simp
  | true =>
    obtain ⟨h1, h2, h3⟩ := zdc_in hz
    rw [ziV_yes h1 h2 h3]
    exact (insS_two (zv_of h1) _).1
/-- What the three picks find beside a gap. -/
theorem zp_gap {o : Int} {l : List R2} {y mo d h mi s ms : Int} {later : Bool} {v : Int} (he : zpV o l y mo d h mi s ms later = (v, true)) (hn : (ziV o l y mo d h mi s ms).length = 0) :
    zvB o l = true ∧ ∃ (k : Nat) (p1 p2 x1 x2 : Int), k < l.length ∧ zpV o l y mo d h mi s ms false = (p1, true) ∧ zpV o l y mo d h mi s ms true = (p2, true) ∧ insB p1 = true ∧ insB p2 = true ∧ offAt o l p1 = x1 ∧ offAt o l p2 = x2 ∧ p1 < tA l k ∧ tA l k ≤ p2 ∧ p2 - p1 = 60000 * (x2 - x1) ∧ (-1439 ≤ x1 ∧ x1 ≤ 1439 ∧ -1439 ≤ x2 ∧ x2 ≤ 1439) ∧ (-400000000000000 ≤ p1 ∧ p1 ≤ 400000000000000 ∧ -400000000000000 ≤ p2 ∧ p2 ≤ 400000000000000) ∧ v = if later then p2 else p1 := by
  have hz : zdc o l y mo d h mi s ms = true := by
    cases hz : zdc o l y mo d h mi s ms with
    | true => rfl
    | false => rw [zpV_no hz] at he; exact absurd (Prod.mk.inj he).2 (by simp)
  obtain ⟨h1, h2, h3⟩ := zdc_in hz
  have hZ := zv_of h1
  rw [ziV_yes h1 h2 h3] at hn
  have hE := List.eq_nil_of_length_eq_zero hn
  obtain ⟨k1, k2, k3⟩ := gapI_law hE
  obtain ⟨o1, o2, o3, o4⟩ := gap_offs hZ k1 k2
  obtain ⟨q1, q2⟩ := pick_gap hn k2 k3
  have b1 := hZ.off _ (show gapI o l (locOf y mo d h mi s ms) ≤ l.length by omega)
  have b2 := hZ.off _ (show gapI o l (locOf y mo d h mi s ms) + 1 ≤ l.length by omega)
  have hn2 := num_bd h2
  have hc2 := cvB_bd h3
  have e1 : iA o l (locOf y mo d h mi s ms) (gapI o l (locOf y mo d h mi s ms)) = num y mo d * 86400000 + cms h mi s ms - 60000 * oA o l (gapI o l (locOf y mo d h mi s ms)) := rfl
  have e2 : iA o l (locOf y mo d h mi s ms) (gapI o l (locOf y mo d h mi s ms) + 1) = num y mo d * 86400000 + cms h mi s ms - 60000 * oA o l (gapI o l (locOf y mo d h mi s ms) + 1) := rfl
  refine ⟨h1, _, iA o l (locOf y mo d h mi s ms) (gapI o l (locOf y mo d h mi s ms) + 1), iA o l (locOf y mo d h mi s ms) (gapI o l (locOf y mo d h mi s ms)), _, _, k1, by rw [zpV_yes h1 h2 h3, q2], by rw [zpV_yes h1 h2 h3, q1], by unfold insB; rw [inB_iff, e2]; omega, by unfold insB; rw [inB_iff, e1]; omega, o1, o2, o3, o4, by rw [e1, e2]; omega, ⟨by omega, by omega, by omega, by omega⟩, ⟨by rw [e2]; omega, by rw [e2]; omega, by rw [e1]; omega, by rw [e1]; omega⟩, ?_⟩
  rw [zpV_yes h1 h2 h3] at he
  have := (Prod.mk.inj he).1
  cases later with
  | true => rw [← this, q1]; rfl
  | false => rw [← this, q2]; rfl
/-- A turn lies between two instants. -/
def btw (l : List R2) (p1 p2 : Int) (k : Nat) : Bool := (List.range k).any fun j => decide (p1 < tA l j) && decide (tA l j ≤ p2)
theorem btw_succ (l : List R2) (p1 p2 : Int) (k : Nat) : btw l p1 p2 (k + 1) = (btw l p1 p2 k || (decide (p1 < tA l k) && decide (tA l k ≤ p2))) := by
  unfold btw
  rw [List.range_succ, List.any_append]
  simp
theorem btw_all {l : List R2} {p1 p2 : Int} {k : Nat} (hk : k < l.length) (h1 : p1 < tA l k) (h2 : tA l k ≤ p2) : btw l p1 p2 l.length = true := by
  unfold btw
  rw [List.any_eq_true]
  exact ⟨k, List.mem_range.2 hk, by simp [h1, h2]⟩

set_option maxRecDepth 100000 in
set_option maxHeartbeats 4000000 in
theorem w_FnPickGap (w : World) (hM : MD w) (A : Option Addr) (len cap : Nat) (hs : Src w.heap.size w A len) (hc : len ≤ cap) (hm : cap ≤ maxLen) :
    Calls Tryd.prog 13 #[.slice A len cap] w fun e w' => e = .returned (.bool true) ∧ Below w.heap.size w w' := by
  have hm' := hm
  unfold maxLen at hm'
  by_cases hbig : 1048576 < len
  · go_enter Tryd.func13, Tryd.ntmps13
    go_wp2_with fail
    go_ret
    exact ⟨rfl, Below.refl _ _⟩
  · go_enter Tryd.func13, Tryd.ntmps13
    go_wp2_with fail
    refine (drawZP hs (Nat.le_refl _) hc hm).mono ?_
    rintro e w1 ⟨o, b, cap1, l, y, mo, d, h, mi, s, ms, later, rfl, ho1, hl5, hb1⟩
    have P0 := Prs.own ho1
    have hcap := own_cap ho1
    have hcm : cap1 ≤ 9223372036854775807 := hcap.2
    have hlc : l.length ≤ cap1 := hcap.1
    have hM1 := hM.below hb1
    have X1 := hide (((Blk.new w1 36 #[.int .i64 o, .slice (some ⟨b, 0, none⟩) l.length cap1]).alloc (.cells #[.int .i64 y, .int .i64 mo, .int .i64 d] 27)).alloc (.cells #[.int .i64 h, .int .i64 mi, .int .i64 s, .int .i64 ms] 29))
    have Y1 := hide ((Blk.newE (W := w1.alloc (.cells #[.int .i64 o, .slice (some ⟨b, 0, none⟩) l.length cap1] 36)) (g := w1.heap.size + 1) (t := 27) (cs := #[.int .i64 y, .int .i64 mo, .int .i64 d]) (by simp)).alloc (.cells #[.int .i64 h, .int .i64 mi, .int .i64 s, .int .i64 ms] 29))
    have Z1 := hide (Blk.newE (W := (w1.alloc (.cells #[.int .i64 o, .slice (some ⟨b, 0, none⟩) l.length cap1] 36)).alloc (.cells #[.int .i64 y, .int .i64 mo, .int .i64 d] 27)) (g := w1.heap.size + 1 + 1) (t := 29) (cs := #[.int .i64 h, .int .i64 mi, .int .i64 s, .int .i64 ms]) (by simp))
    have B1 := bal (bal (bal (Below.refl w1.heap.size w1) (.cells #[.int .i64 o, .slice (some ⟨b, 0, none⟩) l.length cap1] 36)) (.cells #[.int .i64 y, .int .i64 mo, .int .i64 d] 27)) (.cells #[.int .i64 h, .int .i64 mi, .int .i64 s, .int .i64 ms] 29)
    have HB := hide hb1
    have PP := hide P0
    have HM1 := hide hM1
    clear ho1 hcap hs hb1 P0 hM1
    obtain ⟨⟨v, ok⟩, ev⟩ : ∃ r, zpV o l y mo d h mi s ms later = r := ⟨_, rfl⟩
    have EV := hide ev
    have g1 : (ok != ok) = false := by simp
    have g2 : (v != v) = false := by simp
    have g3 : (v == v) = true := by simp
    clear ev
    go_wp2_with fail
    refine (impl_zp o y mo d h mi s ms later l _ cap1 w1.heap.size _ _ (HM1.out.below B1) rfl (PP.out.below B1) B1.size hlc hcm).mono ?_
    rintro e w2 ⟨rfl, hb2⟩
    rw [EV.out]
    have X2 := hide (X1.out.below hb2 X1.out.lt)
    have Y2 := hide (Y1.out.below hb2 Y1.out.lt)
    have Z2 := hide (Z1.out.below hb2 Z1.out.lt)
    have B2 := bto B1 hb2
    clear hb2 X1 Y1 Z1
    have x0 := X2.out.cell 0
    have x1 := X2.out.cell 1
    have y0 := Y2.out.cell 0
    have y1 := Y2.out.cell 1
    have y2 := Y2.out.cell 2
    have z0 := Z2.out.cell 0
    have z1 := Z2.out.cell 1
    have z2 := Z2.out.cell 2
    have z3 := Z2.out.cell 3
    simp at x0 x1 y0 y1 y2 z0 z1 z2 z3
    have l2 := Z2.out.lt
    go_wp2_with fail
    refine (spec_zp o y mo d h mi s ms later l _ cap1 w1.heap.size _ _ rfl (PP.out.below B2) B2.size).mono ?_
    rintro e w3 ⟨rfl, hb3⟩
    rw [EV.out]
    clear x0 x1 y0 y1 y2 z0 z1 z2 z3
    have X3 := hide (X2.out.below hb3 X2.out.lt)
    have Y3 := hide (Y2.out.below hb3 Y2.out.lt)
    have Z3 := hide (Z2.out.below hb3 Z2.out.lt)
    have B3 := bto B2 hb3
    clear hb3 X2 Y2 Z2
    have x0 := X3.out.cell 0
    have x1 := X3.out.cell 1
    have y0 := Y3.out.cell 0
    have y1 := Y3.out.cell 1
    have y2 := Y3.out.cell 2
    have z0 := Z3.out.cell 0
    have z1 := Z3.out.cell 1
    have z2 := Z3.out.cell 2
    have z3 := Z3.out.cell 3
    simp at x0 x1 y0 y1 y2 z0 z1 z2 z3
    have l3 := Z3.out.lt
    cases ok with
    | false =>
      clear x0 x1 y0 y1 y2 z0 z1 z2 z3
      go_wp2_with fail
      go_ret
      exact ⟨rfl, bto HB.out B3⟩
    | true =>
      go_wp2_with fail
      refine (impl_zi o y mo d h mi s ms l _ cap1 w1.heap.size _ _ (HM1.out.below B3) rfl (PP.out.below B3) B3.size hlc hcm).mono ?_
      rintro e w4 ⟨A4, c4, rfl, i4, hn4, hc4, hb4⟩
      have hl2 := zi_len o l y mo d h mi s ms
      have hgp := hide (fun hn => zp_gap (o := o) (l := l) (y := y) (mo := mo) (d := d) (h := h) (mi := mi) (s := s) (ms := ms) EV.out hn)
      obtain ⟨n, en⟩ : ∃ n, n = (ziV o l y mo d h mi s ms).length := ⟨_, rfl⟩
      rw [← en] at hl2 hgp hn4 ⊢
      clear i4 en
      by_cases h0 : 0 < n
      · have B4 := bto B3 hb4
        have g0 : decide (0 < n) = true := decide_eq_true h0
        clear x0 x1 y0 y1 y2 z0 z1 z2 z3 hgp
        go_wp2_with fail
        go_ret
        exact ⟨rfl, bto HB.out B4⟩
      · obtain rfl : n = 0 := by omega
        clear x0 x1 y0 y1 y2 z0 z1 z2 z3
        have X4 := hide (X3.out.below hb4 X3.out.lt)
        have Y4 := hide (Y3.out.below hb4 Y3.out.lt)
        have Z4 := hide (Z3.out.below hb4 Z3.out.lt)
        have B4 := bto B3 hb4
        clear hb4 X3 Y3 Z3
        have x0 := X4.out.cell 0
        have x1 := X4.out.cell 1
        have y0 := Y4.out.cell 0
        have y1 := Y4.out.cell 1
        have y2 := Y4.out.cell 2
        have z0 := Z4.out.cell 0
        have z1 := Z4.out.cell 1
        have z2 := Z4.out.cell 2
        have z3 := Z4.out.cell 3
        simp at x0 x1 y0 y1 y2 z0 z1 z2 z3
        have l4 := Z4.out.lt
        obtain ⟨hz, k0, p1, p2, of1, of2, hk0, hp1, hp2, hi1, hi2, ho1, ho2, ht1, ht2, hd, hxb, hpb, hv⟩ := hgp.out rfl
        obtain ⟨xb1, xb2, xb3, xb4⟩ := hxb
        obtain ⟨pb1, pb2, pb3, pb4⟩ := hpb
        have HZ := hide hz
        have HP1 := hide hp1
        have HP2 := hide hp2
        have HI1 := hide hi1
        have HI2 := hide hi2
        have HO1 := hide ho1
        have HO2 := hide ho2
        have HBt := hide (btw_all hk0 ht1 ht2)
        have HD := hide hd
        have HV := hide hv
        have hlt12 : p1 < p2 := by omega
        clear hgp hz hp1 hp2 hi1 hi2 ho1 ho2 hd hv ht1 ht2 hk0 h0
        go_wp2_with fail
        refine (impl_zp o y mo d h mi s ms false l _ cap1 w1.heap.size _ _ (HM1.out.below B4) rfl (PP.out.below B4) B4.size hlc hcm).mono ?_
        rintro e w5 ⟨rfl, hb5⟩
        rw [HP1.out]
        clear x0 x1 y0 y1 y2 z0 z1 z2 z3
        have X5 := hide (X4.out.below hb5 X4.out.lt)
        have Y5 := hide (Y4.out.below hb5 Y4.out.lt)
        have Z5 := hide (Z4.out.below hb5 Z4.out.lt)
        have B5 := bto B4 hb5
        clear hb5 X4 Y4 Z4
        have x0 := X5.out.cell 0
        have x1 := X5.out.cell 1
        have y0 := Y5.out.cell 0
        have y1 := Y5.out.cell 1
        have y2 := Y5.out.cell 2
        have z0 := Z5.out.cell 0
        have z1 := Z5.out.cell 1
        have z2 := Z5.out.cell 2
        have z3 := Z5.out.cell 3
        simp at x0 x1 y0 y1 y2 z0 z1 z2 z3
        have l5 := Z5.out.lt
        go_wp2_with fail
        refine (impl_zp o y mo d h mi s ms true l _ cap1 w1.heap.size _ _ (HM1.out.below B5) rfl (PP.out.below B5) B5.size hlc hcm).mono ?_
        rintro e w6 ⟨rfl, hb6⟩
        rw [HP2.out]
        clear x0 x1 y0 y1 y2 z0 z1 z2 z3
        have X6 := hide (X5.out.below hb6 X5.out.lt)
        have Y6 := hide (Y5.out.below hb6 Y5.out.lt)
        have Z6 := hide (Z5.out.below hb6 Z5.out.lt)
        have B6 := bto B5 hb6
        clear hb6 X5 Y5 Z5
        have x0 := X6.out.cell 0
        have x1 := X6.out.cell 1
        have y0 := Y6.out.cell 0
        have y1 := Y6.out.cell 1
        have y2 := Y6.out.cell 2
        have z0 := Z6.out.cell 0
        have z1 := Z6.out.cell 1
        have z2 := Z6.out.cell 2
        have z3 := Z6.out.cell 3
        simp at x0 x1 y0 y1 y2 z0 z1 z2 z3
        have l6 := Z6.out.lt
        go_wp2_with fail
        refine (impl_zo o p1 l _ _ w1.heap.size _ _ rfl (PP.out.below B6) B6.size hlc hcm).mono ?_
        rintro e w7 ⟨rfl, hb7⟩
        rw [zoV_yes HZ.out HI1.out, HO1.out]
        clear x0 x1 y0 y1 y2 z0 z1 z2 z3
        have X7 := hide (X6.out.below hb7 X6.out.lt)
        have Y7 := hide (Y6.out.below hb7 Y6.out.lt)
        have Z7 := hide (Z6.out.below hb7 Z6.out.lt)
        have B7 := bto B6 hb7
        clear hb7 X6 Y6 Z6
        have x0 := X7.out.cell 0
        have x1 := X7.out.cell 1
        have y0 := Y7.out.cell 0
        have y1 := Y7.out.cell 1
        have y2 := Y7.out.cell 2
        have z0 := Z7.out.cell 0
        have z1 := Z7.out.cell 1
        have z2 := Z7.out.cell 2
        have z3 := Z7.out.cell 3
        simp at x0 x1 y0 y1 y2 z0 z1 z2 z3
        have l7 := Z7.out.lt
        go_wp2_with fail
        refine (impl_zo o p2 l _ _ w1.heap.size _ _ rfl (PP.out.below B7) B7.size hlc hcm).mono ?_
        rintro e w8 ⟨rfl, hb8⟩
        rw [zoV_yes HZ.out HI2.out, HO2.out]
        clear x0 x1 y0 y1 y2 z0 z1 z2 z3
        have X8 := hide (X7.out.below hb8 X7.out.lt)
        have Y8 := hide (Y7.out.below hb8 Y7.out.lt)
        have Z8 := hide (Z7.out.below hb8 Z7.out.lt)
        have B8 := bto B7 hb8
        clear hb8 X7 Y7 Z7
        have x0 := X8.out.cell 0
        have x1 := X8.out.cell 1
        have y0 := Y8.out.cell 0
        have y1 := Y8.out.cell 1
        have y2 := Y8.out.cell 2
        have z0 := Z8.out.cell 0
        have z1 := Z8.out.cell 1
        have z2 := Z8.out.cell 2
        have z3 := Z8.out.cell 3
        simp at x0 x1 y0 y1 y2 z0 z1 z2 z3
        have l8 := Z8.out.lt
        clear y0 y1 y2 z0 z1 z2 z3
        go_wp2_with fail
        go_loopw [19, 20] (fun u i wr => ∃ (k : Nat) (bb : Bool), k ≤ l.length ∧ i = .int .i64 k ∧ u = .bool bb ∧ Hid (bb = btw l p1 p2 k) ∧ Hid (Below w8.heap.size w8 wr)) (fun _ i _ => l.length - (intOf i).toNat)
        case atStart => exact ⟨0, false, by omega, rfl, rfl, hide rfl, hide (Below.refl _ _)⟩
        case round =>
          obtain ⟨k, bb, hk, rfl, rfl, hbb, hb⟩ := hrel
          have BR := bto B8 hb.out
          have XR := hide (X8.out.below hb.out X8.out.lt)
          have x0 := XR.out.cell 0
          have x1 := XR.out.cell 1
          have hxl := XR.out.lt
          simp at x0 x1
          by_cases hlt : k < l.length
          · rcases PP.out.view with h0 | ⟨bA, oA', e0, hbw, hcc⟩
            · omega
            simp only [Option.some.injEq, Addr.mk.injEq, and_true] at e0
            obtain ⟨rfl, rfl⟩ := e0
            obtain ⟨t, et⟩ : ∃ t, t = tA l k := ⟨_, rfl⟩
            have c0 := (BR.cell (p := ⟨b, 0 + k * 2, none⟩) hbw).trans (hcc k hlt).1
            rw [show (l.getD k (0, 0)).1 = t from et.symm] at c0
            have hss := hide (btw_succ l p1 p2 k)
            rw [← hbb.out, ← et] at hss
            have hbr : b < wr.heap.size := by have := BR.size; omega
            simp only [Nat.zero_add] at c0
            clear hcc et
            cases bb with
            | true =>
              have HN := hide (show true = btw l p1 p2 (k + 1) by rw [hss.out]; rfl)
              clear hss hbb
              go_wp2_with fail

              go_wp2
              go_roundw
              case rel => exact ⟨k + 1, true, by omega, by go_num, rfl, HN, hb⟩
              case measure => simp [intOf]; omega
            | false =>
              by_cases hc1 : p1 < t
              · have q1 : decide (p1 < t) = true := decide_eq_true hc1
                by_cases hc2 : t ≤ p2
                · have q2 : decide (t ≤ p2) = true := decide_eq_true hc2
                  have HN := hide (show true = btw l p1 p2 (k + 1) by rw [hss.out, q1, q2]; rfl)
                  clear hss hbb hc1 hc2
                  go_wp2
                  go_roundw
                  case rel => exact ⟨k + 1, true, by omega, by go_num, rfl, HN, hb⟩
                  case measure => simp [intOf]; omega
                · have q2 : decide (t ≤ p2) = false := decide_eq_false hc2
                  have HN := hide (show false = btw l p1 p2 (k + 1) by rw [hss.out, q1, q2]; rfl)
                  clear hss hbb hc1 hc2
                  go_wp2
                  go_roundw
                  case rel => exact ⟨k + 1, false, by omega, by go_num, rfl, HN, hb⟩
                  case measure => simp [intOf]; omega
              · have q1 : decide (p1 < t) = false := decide_eq_false hc1
                have HN := hide (show false = btw l p1 p2 (k + 1) by rw [hss.out, q1]; rfl)
                clear hss hbb hc1
                go_wp2
                go_roundw
                case rel => exact ⟨k + 1, false, by omega, by go_num, rfl, HN, hb⟩
                case measure => simp [intOf]; omega
          · obtain rfl : k = l.length := by omega
            have hbt : bb = true := hbb.out.trans HBt.out
            subst hbt
            have e1 : IntKind.i64.wrap (p2 - p1) = p2 - p1 := IntWalk.i64_in _ (by omega)
            have e2 : IntKind.i64.wrap (of2 - of1) = of2 - of1 := IntWalk.i64_in _ (by omega)
            have e3 : IntKind.i64.wrap (60000 * (of2 - of1)) = 60000 * (of2 - of1) := IntWalk.i64_in _ (by omega)
            have q3 : (p2 - p1 == 60000 * (of2 - of1)) = true := by rw [HD.out]; simp
            cases later with
            | true =>
              have hv : v = p2 := HV.out
              subst hv
              have q4 : (v == p1) = false := beq_eq_false_iff_ne.2 (by omega)
              clear HV
              go_wp2
              go_ret
              exact ⟨rfl, bto HB.out BR⟩
            | false =>
              have hv : v = p1 := HV.out
              subst hv
              clear HV
              go_wp2
              go_ret
              exact ⟨rfl, bto HB.out BR⟩
end Go.Proofs.YtjdlffkbhaieaaaDoor
