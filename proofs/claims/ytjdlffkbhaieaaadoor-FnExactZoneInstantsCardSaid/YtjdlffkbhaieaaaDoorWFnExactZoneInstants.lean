/- The law FnExactZoneInstants returns true. -/
import Derived.Test.YtjdlffkbhaieaaaDoorZi5
import Derived.Test.YtjdlffkbhaieaaaDoorZi6
import Derived.Test.YtjdlffkbhaieaaaDoorSt8
import Derived.Test.YtjdlffkbhaieaaaDoorZn6
import Derived.Test.YtjdlffkbhaieaaaDoorShellZ
import Derived.Test.YtjdlffkbhaieaaaDoorShellI
import Derived.Test.YtjdlffkbhaieaaaDoorShellD
import Derived.Test.YtjdlffkbhaieaaaDoorZk
namespace Go.Proofs.YtjdlffkbhaieaaaDoor
open Go.RowKit
attribute [local go_sem] lt_cell

structure Box (G : Prop) : Prop where
  out : G
theorem two {G T : Prop} (k : G) (f : Box G → T) : T := f ⟨k⟩
theorem zi_len2 (o : Int) (l : List R2) (y mo d h mi s ms : Int) : (ziV o l y mo d h mi s ms).length ≤ 2 := by
  cases hz : zdc o l y mo d h mi s ms with
  | false => rw [ziV_no hz]; simp
  | true =>
    obtain ⟨h1, h2, h3⟩ := zdc_in hz
    rw [ziV_yes h1 h2 h3]
    exact (insS_two (zv_of h1) _).1
set_option maxRecDepth 100000 in
set_option maxHeartbeats 4000000 in
theorem w_FnExactZoneInstants (w : World) (hM : MD w) (o : Int) (A : Option Addr) (len cap : Nat) (_ho : I64 o) (l : List R2) (hl : l.length = len) (hP : Prs w.heap.size w A l) (_hi : ∀ r ∈ l, I64 r.1 ∧ I64 r.2) (hc : len ≤ cap) (hm : cap ≤ maxLen) (xd : Int × Int × Int) (_hd : True) (xc : Int × Int × Int × Int) (_hc : True) :
    Calls Tryd.prog 9 #[.agg #[.int .i64 o, .slice A len cap], .agg #[.int .i64 xd.1, .int .i64 xd.2.1, .int .i64 xd.2.2], .agg #[.int .i64 xc.1, .int .i64 xc.2.1, .int .i64 xc.2.2.1, .int .i64 xc.2.2.2]] w fun e w' => e = .returned (.bool true) ∧ Below w.heap.size w w' := by
  unfold maxLen at hm
  obtain ⟨y, mo, d⟩ := xd
  obtain ⟨h, mi, s, ms⟩ := xc
  have HL := hide hl
  have HP := hide hP
  have HM := hide hM
  have X0 := ((Blk.new w 24 #[.int .i64 o, .slice A len cap]).alloc (.cells #[.int .i64 y, .int .i64 mo, .int .i64 d] 53)).alloc (.cells #[.int .i64 h, .int .i64 mi, .int .i64 s, .int .i64 ms] 54)
  have Y0 := (Blk.newE (W := w.alloc (.cells #[.int .i64 o, .slice A len cap] 24)) (g := w.heap.size + 1) (t := 53) (cs := #[.int .i64 y, .int .i64 mo, .int .i64 d]) (by simp)).alloc (.cells #[.int .i64 h, .int .i64 mi, .int .i64 s, .int .i64 ms] 54)
  have Z0 := Blk.newE (W := (w.alloc (.cells #[.int .i64 o, .slice A len cap] 24)).alloc (.cells #[.int .i64 y, .int .i64 mo, .int .i64 d] 53)) (g := w.heap.size + 1 + 1) (t := 54) (cs := #[.int .i64 h, .int .i64 mi, .int .i64 s, .int .i64 ms]) (by simp)
  have B0 := bal (bal (bal (Below.refl w.heap.size w) (.cells #[.int .i64 o, .slice A len cap] 24)) (.cells #[.int .i64 y, .int .i64 mo, .int .i64 d] 53)) (.cells #[.int .i64 h, .int .i64 mi, .int .i64 s, .int .i64 ms] 54)
  clear hl hP hM
  by_cases hbig : (1048576 : Int) < len
  · go_enter Tryd.func9, Tryd.ntmps9
    go_wp2_with fail
    refine (szZone_any o len cap A _ _ (by omega) (by omega) (by omega)).mono ?_
    rintro e w1 ⟨rfl, hb1⟩
    rw [if_pos (by omega)]
    go_wp2_with fail
    go_ret
    exact ⟨rfl, bto B0 hb1⟩
  · have h0 : (0 : Int) ≤ 1048576 - len := by omega
    go_enter Tryd.func9, Tryd.ntmps9
    go_wp2_with fail
    refine (szZone_any o len cap A _ _ (by omega) (by omega) (by omega)).mono ?_
    rintro e w1 ⟨rfl, hb1⟩
    rw [if_neg (by omega)]
    have X1 := hide (X0.below hb1 X0.lt)
    have Y1 := hide (Y0.below hb1 Y0.lt)
    have Z1 := hide (Z0.below hb1 Z0.lt)
    have B1 := bto B0 hb1
    clear X0 Y0 Z0 B0 hb1
    obtain ⟨L, eL⟩ : ∃ L, L = ziV o l y mo d h mi s ms := ⟨_, rfl⟩
    have EL := hide eL
    have hL2 := zi_len2 o l y mo d h mi s ms
    rw [← eL] at hL2
    have hL7 : L.length ≤ 1048576 := by omega
    have hll : l.length ≤ 1048576 := by have := HL.out; omega
    clear eL
    have ww := fun (W' : World) (K : Below w1.heap.size w1 W') => c9 (X1.out.below K X1.out.lt) (Y1.out.below K Y1.out.lt) (Z1.out.below K Z1.out.lt)
    go_wp2_with fail
    apply two
    case f =>
      intro key
      go_region_held3 (fun w' => w'.cell? ⟨w.heap.size, 0, none⟩ = some (.int .i64 o) ∧ w'.cell? ⟨w.heap.size, 1, none⟩ = some (.slice A len cap) ∧ w'.cell? ⟨w.heap.size + 1, 0, none⟩ = some (.int .i64 y) ∧ w'.cell? ⟨w.heap.size + 1, 1, none⟩ = some (.int .i64 mo) ∧ w'.cell? ⟨w.heap.size + 1, 2, none⟩ = some (.int .i64 d) ∧ w'.cell? ⟨w.heap.size + 1 + 1, 0, none⟩ = some (.int .i64 h) ∧ w'.cell? ⟨w.heap.size + 1 + 1, 1, none⟩ = some (.int .i64 mi) ∧ w'.cell? ⟨w.heap.size + 1 + 1, 2, none⟩ = some (.int .i64 s) ∧ w'.cell? ⟨w.heap.size + 1 + 1, 3, none⟩ = some (.int .i64 ms)) (first | exact ww _ kf | exact ww _ kd | exact ww _ kc | exact ww _ kz | exact ww _ (bdrew (Below.refl _ _))) (first | (go_at_call 16; refine (toZone_any o l len cap w.heap.size A _ HL.out (HP.out.below (bto B1 (by first | exact kd | exact kc | exact bdrew (Below.refl _ _) | fail))) (Nat.le_trans B1.size (Below.size (B := w1.heap.size) (w := w1) (by first | exact kd | exact kc | exact bdrew (Below.refl _ _) | fail))) (by omega)).mono ?_; rintro e wz ⟨g2, cap2, rfl, qz, hbz⟩; have kz : Below w1.heap.size w1 wz := bto (by first | exact kd | exact kc | exact bdrew (Below.refl _ _) | fail) hbz) | (go_at_call 28; refine (toDate_any y mo d _).mono ?_; rintro e wd ⟨rfl, hbd⟩; have kd : Below w1.heap.size w1 wd := bto (by first | exact kz | exact kc | exact bdrew (Below.refl _ _) | fail) hbd; (first | (have qd := own_below qc hbd) | (have qd := own_below qz hbd) | skip)) | (go_at_call 29; refine (toClock_any h mi s ms _).mono ?_; rintro e wc ⟨rfl, hbc⟩; have kc : Below w1.heap.size w1 wc := bto (by first | exact kz | exact kd | exact bdrew (Below.refl _ _) | fail) hbc; (first | (have qc := own_below qd hbc) | (have qc := own_below qz hbc) | skip)) | (go_at_call 25; refine (spec_zi o y mo d h mi s ms l _ _ _ _ _ rfl (Prs.own (by first | exact qd | exact qc | exact qz | fail)) (Nat.le_refl _)).mono ?_; rintro e wf ⟨A3, c3, rfl, i3, hn3, hc3, hbf⟩; rw [← EL.out] at i3 hn3 ⊢; have kf : Below w1.heap.size w1 wf := bto (by first | exact kd | exact kc | exact kz | exact bdrew (Below.refl _ _) | fail) hbf; have i3' : IRow wf w1.heap.size A3 L := i3.more (Below.size (B := w1.heap.size) (w := w1) (by first | exact kd | exact kc | exact kz | exact bdrew (Below.refl _ _) | fail))))
      all_goals
        rename_i hS
        clear hS hbf i3 hn3 hc3
        (try clear qd)
        (try clear qc)
        (try clear qz)
        revert g2 cap2 wf A3 c3 kf i3'
        exact key.out
    case k =>
      intro g2 cap2 w2 A3 c3 k2 i3
      have I2 := hide i3
      have T3 := hide i3.top
      have B2 := bto B1 k2
      have X2 := hide (X1.out.below k2 X1.out.lt)
      have Y2 := hide (Y1.out.below k2 Y1.out.lt)
      have Z2 := hide (Z1.out.below k2 Z1.out.lt)
      have x0 := X2.out.cell 0
      have x1 := X2.out.cell 1
      simp at x0 x1
      clear ww k2 X1 Y1 Z1 i3
      go_wp2_with fail
      refine (toZone_any o l len cap w.heap.size A _ HL.out (HP.out.below B2) B2.size (by omega)).mono ?_
      rintro e w3 ⟨g3, cap3, rfl, ho3, hb3⟩
      have hcap := own_cap ho3
      have hcm3 : cap3 ≤ 9223372036854775807 := hcap.2
      have hlc3 : l.length ≤ cap3 := hcap.1
      have hg3 := ho3.lt g3 rfl
      obtain ⟨w4, hw4⟩ : ∃ W, W = w3.alloc (.cells #[.int .i64 o, .slice (some ⟨g3, 0, none⟩) l.length cap3] 36) := ⟨_, rfl⟩
      have N4 := hide (show Blk w4 w3.heap.size 36 #[.int .i64 o, .slice (some ⟨g3, 0, none⟩) l.length cap3] by rw [hw4]; exact Blk.new _ _ _)
      have O4 := hide (show w4.ownsRow w2.heap.size 68 2 (.slice (some ⟨g3, 0, none⟩) l.length cap3) l.length (flatP l) by rw [hw4]; exact ho3.alloc _)
      have P4 := hide (Prs.own O4.out)
      have X4 := hide (show Blk w4 w.heap.size 24 #[.int .i64 o, .slice A len cap] by rw [hw4]; exact (X2.out.below hb3 X2.out.lt).alloc _)
      have Y4 := hide (show Blk w4 (w.heap.size + 1) 53 #[.int .i64 y, .int .i64 mo, .int .i64 d] by rw [hw4]; exact (Y2.out.below hb3 Y2.out.lt).alloc _)
      have Z4 := hide (show Blk w4 (w.heap.size + 1 + 1) 54 #[.int .i64 h, .int .i64 mi, .int .i64 s, .int .i64 ms] by rw [hw4]; exact (Z2.out.below hb3 Z2.out.lt).alloc _)
      have I4 := hide (show IRow w4 w1.heap.size A3 L by rw [hw4]; exact (I2.out.below hb3).alloc _)
      have B4 := hide (show Below w.heap.size w w4 by rw [hw4]; exact bal (bto B2 hb3) _)
      have hs34 : w3.heap.size < w4.heap.size := N4.out.lt
      have hz2 : w.heap.size + 1 + 1 < w2.heap.size := Z2.out.lt
      have hs23 := hb3.size
      have HW4 := hide hw4
      clear ho3 hcap X2 Y2 Z2 x0 x1 hb3 hw4 I2
      have ww := fun (W' : World) (K : Below w4.heap.size w4 W') => c9 (N4.out.below K N4.out.lt) (Y4.out.below K Y4.out.lt) (Z4.out.below K Z4.out.lt)
      go_wp2_with fail
      rw [← HW4.out]
      apply two
      case f =>
        intro key
        go_region_held3 (fun w' => w'.cell? ⟨w3.heap.size, 0, none⟩ = some (.int .i64 o) ∧ w'.cell? ⟨w3.heap.size, 1, none⟩ = some (.slice (some ⟨g3, 0, none⟩) l.length cap3) ∧ w'.cell? ⟨w.heap.size + 1, 0, none⟩ = some (.int .i64 y) ∧ w'.cell? ⟨w.heap.size + 1, 1, none⟩ = some (.int .i64 mo) ∧ w'.cell? ⟨w.heap.size + 1, 2, none⟩ = some (.int .i64 d) ∧ w'.cell? ⟨w.heap.size + 1 + 1, 0, none⟩ = some (.int .i64 h) ∧ w'.cell? ⟨w.heap.size + 1 + 1, 1, none⟩ = some (.int .i64 mi) ∧ w'.cell? ⟨w.heap.size + 1 + 1, 2, none⟩ = some (.int .i64 s) ∧ w'.cell? ⟨w.heap.size + 1 + 1, 3, none⟩ = some (.int .i64 ms)) (first | exact ww _ kf | exact ww _ kd | exact ww _ kc | exact ww _ (bdrew (Below.refl _ _))) (first | (go_at_call 28; refine (toDate_any y mo d _).mono ?_; rintro e wd ⟨rfl, hbd⟩; have kd : Below w4.heap.size w4 wd := bto (by first | exact kc | exact bdrew (Below.refl _ _) | fail) hbd) | (go_at_call 29; refine (toClock_any h mi s ms _).mono ?_; rintro e wc ⟨rfl, hbc⟩; have kc : Below w4.heap.size w4 wc := bto (by first | exact kd | exact bdrew (Below.refl _ _) | fail) hbc) | (go_at_call 24; refine (impl_zi o y mo d h mi s ms l _ _ w4.heap.size _ _ (HM.out.below (bto B4.out (by first | exact kd | exact kc | exact bdrew (Below.refl _ _) | fail))) rfl (P4.out.below (by first | exact kd | exact kc | exact bdrew (Below.refl _ _) | fail)) (Below.size (B := w4.heap.size) (w := w4) (by first | exact kd | exact kc | exact bdrew (Below.refl _ _) | fail)) hlc3 hcm3).mono ?_; rintro e wf ⟨A5, c5, rfl, i5, hn5, hc5, hbf⟩; rw [← EL.out] at i5 hn5 ⊢; have kf : Below w4.heap.size w4 wf := bto (by first | exact kd | exact kc | exact bdrew (Below.refl _ _) | fail) hbf; have i5' : IRow wf w4.heap.size A5 L := i5.more (Below.size (B := w4.heap.size) (w := w4) (by first | exact kd | exact kc | exact bdrew (Below.refl _ _) | fail))))
        all_goals
          rename_i hS
          clear hS hbf i5 hn5 hc5
          revert wf A5 c5 kf i5'
          exact key.out
      case k =>
        intro w5 A5 c5 k5 i5
        have B5 := bto B4.out k5
        have N5 := hide (N4.out.below k5 N4.out.lt)
        have X5 := hide (X4.out.below k5 X4.out.lt)
        have Y5 := hide (Y4.out.below k5 Y4.out.lt)
        have Z5 := hide (Z4.out.below k5 Z4.out.lt)
        have P5 := hide (P4.out.below k5)
        have O5 := hide (own_below O4.out k5)
        have I5 := hide (I4.out.below k5)
        have J5 := hide i5
        have hz45 : w4.heap.size ≤ w5.heap.size := k5.size
        clear ww N4 X4 Y4 Z4 P4 O4 I4 B4 HW4 k5 i5
        go_wp2_with fail
        refine (eqIntS_any L _ _ _ _ _ _ _ _ rfl J5.out I5.out hL7).mono ?_
        rintro e w6 ⟨rfl, hb6⟩
        have B6 := bto B5 hb6
        have N6 := hide (N5.out.below hb6 N5.out.lt)
        have X6 := hide (X5.out.below hb6 X5.out.lt)
        have Y6 := hide (Y5.out.below hb6 Y5.out.lt)
        have Z6 := hide (Z5.out.below hb6 Z5.out.lt)
        have P6 := hide (P5.out.below (hb6.mono hz45))
        have O6 := hide (own_below O5.out hb6)
        have I6 := hide (I5.out.below hb6)
        have J6 := hide (J5.out.below hb6)
        have hz46 : w4.heap.size ≤ w6.heap.size := Nat.le_trans hz45 hb6.size
        clear N5 X5 Y5 Z5 P5 O5 I5 J5 B5 hb6
        go_wp2_with fail
        go_region_held3 (fun w' => w'.cell? ⟨w3.heap.size, 0, none⟩ = some (.int .i64 o) ∧ w'.cell? ⟨w3.heap.size, 1, none⟩ = some (.slice (some ⟨g3, 0, none⟩) l.length cap3) ∧ w'.cell? ⟨w.heap.size, 0, none⟩ = some (.int .i64 o) ∧ w'.cell? ⟨w.heap.size, 1, none⟩ = some (.slice A len cap)) (first | exact ⟨N6.out.drew.cell 0, N6.out.drew.cell 1, X6.out.drew.cell 0, X6.out.drew.cell 1⟩ | exact ⟨N7.cell 0, N7.cell 1, X7.cell 0, X7.cell 1⟩ | exact ⟨N8.out.cell 0, N8.out.cell 1, X8.out.cell 0, X8.out.cell 1⟩) (first | (go_at_call 16; refine (toZone_any o l len cap w.heap.size A _ HL.out (HP.out.below (bdrew B6)) (Below.size (B := w.heap.size) (w := w) (bdrew B6)) (by omega)).mono ?_; rintro e w7 ⟨g6, cap6, rfl, ho6, hb7⟩; have P7 := Prs.own ho6; have N7 := N6.out.drew.below hb7 N6.out.lt; have X7 := X6.out.drew.below hb7 X6.out.lt; have hs7 := hb7.size) | (go_at_call 19; refine (eqZone_same o l _ _ _ w7.heap.size _ _ _ rfl ((P6.out.drew.below (hb7.mono hz46)).more (Nat.le_trans hz46 hs7)) P7 (Nat.le_refl _) hll).mono ?_; rintro e w8 ⟨rfl, hb8⟩; have N8 := hide (N7.below hb8 N7.lt); have X8 := hide (X7.below hb8 X7.lt)))
        all_goals
          have K8 := bto (bdrew (Below.refl w6.heap.size w6)) (bto hb7 hb8)
          have B8 := bto B6 K8
          have Y8 := hide (Y6.out.below K8 Y6.out.lt)
          have Z8 := hide (Z6.out.below K8 Z6.out.lt)
          have O8 := hide (own_below O6.out K8)
          have I8 := hide (I6.out.below K8)
          have J8 := hide (J6.out.below K8)
          have hz68 := K8.size
          clear N6 X6 Y6 Z6 P6 O6 I6 J6 B6 P7 N7 X7 ho6 hb7 hb8 K8
          have n0 := N8.out.cell 0
          have n1 := N8.out.cell 1
          simp at n0 n1
          go_wp2_with fail
          refine (markZ_any _ o w2.heap.size _ _ g3 l 1 O8.out hg3.1 hll (by omega) (by omega)).mono ?_
          rintro e w9 ⟨rfl, hg9⟩
          have X9 := hide (X8.out.grown' hg9 (by omega))
          have Y9 := hide (Y8.out.grown' hg9 (by omega))
          have Z9 := hide (Z8.out.grown' hg9 (by omega))
          have I9 := hide (I8.out.farT T3.out hg9 (fun q hq => by injection hq with hq; omega))
          have J9 := hide (J8.out.farT J8.out.top hg9 (fun q hq => by injection hq with hq; omega))
          have B9 := bonly B8 hg9 (by omega)
          have hz9 := hg9.size
          have q1 : decide (1 + 2 * (l.length : Int) < 0) = false := decide_eq_false (by omega)
          clear N8 X8 Y8 Z8 O8 I8 J8 B8 hg9 n0 n1
          go_wp2_with fail
          refine (eqIntS_any L _ _ _ _ _ _ _ _ rfl J9.out I9.out hL7).mono ?_
          rintro e w10 ⟨rfl, hb10⟩
          have X10 := hide (X9.out.below hb10 X9.out.lt)
          have Y10 := hide (Y9.out.below hb10 Y9.out.lt)
          have Z10 := hide (Z9.out.below hb10 Z9.out.lt)
          have I10 := hide (I9.out.below hb10)
          have J10 := hide (J9.out.below hb10)
          have B10 := bto B9 hb10
          clear X9 Y9 Z9 I9 J9 B9 hb10 q1
          go_wp2_with fail
          refine (markI_any _ w4.heap.size _ _ A5 L 1 J10.out rfl hL7 (by omega) (by omega)).mono ?_
          rintro e w11 ⟨rfl, j11, row, hg11, hrow⟩
          have X11 := hide (X10.out.grown hg11 (fun e => by have := (hrow _ e.symm).2; omega))
          have Y11 := hide (Y10.out.grown hg11 (fun e => by have := (hrow _ e.symm).2; omega))
          have Z11 := hide (Z10.out.grown hg11 (fun e => by have := (hrow _ e.symm).2; omega))
          have I11 := hide (I10.out.farT T3.out hg11 (fun q hq => by have := (hrow q hq).2; omega))
          have J11 := hide j11
          have B11 := B10.grown hg11 B10.size (fun q hq => by have := (hrow q hq).2; omega)
          clear X10 Y10 Z10 I10 J10 B10 j11 hg11 hrow
          obtain ⟨n, en⟩ : ∃ n, n = L.length := ⟨_, rfl⟩
          rw [← en] at J11 ⊢
          have hn7 : n ≤ 1048576 := by omega
          have HN := hide en
          clear en
          go_wp2_with fail
          refine (heldI_any _ w4.heap.size _ _ A5 1 J11.out hn7 (by omega) (by omega)).mono ?_
          rintro e w12 ⟨rfl, rfl⟩
          have q1 : decide (1 + (n : Int) < 0) = false := decide_eq_false (by omega)
          have q2 : ((1 + (n : Int)) != (1 + (n : Int))) = false := by simp
          go_wp2_with fail
          apply two
          case f =>
            intro key
            have ww := fun (W' : World) (K : Below w11.heap.size w11 W') => c9 (X11.out.below K X11.out.lt) (Y11.out.below K Y11.out.lt) (Z11.out.below K Z11.out.lt)
            go_region_held3 (fun w' => w'.cell? ⟨w.heap.size, 0, none⟩ = some (.int .i64 o) ∧ w'.cell? ⟨w.heap.size, 1, none⟩ = some (.slice A len cap) ∧ w'.cell? ⟨w.heap.size + 1, 0, none⟩ = some (.int .i64 y) ∧ w'.cell? ⟨w.heap.size + 1, 1, none⟩ = some (.int .i64 mo) ∧ w'.cell? ⟨w.heap.size + 1, 2, none⟩ = some (.int .i64 d) ∧ w'.cell? ⟨w.heap.size + 1 + 1, 0, none⟩ = some (.int .i64 h) ∧ w'.cell? ⟨w.heap.size + 1 + 1, 1, none⟩ = some (.int .i64 mi) ∧ w'.cell? ⟨w.heap.size + 1 + 1, 2, none⟩ = some (.int .i64 s) ∧ w'.cell? ⟨w.heap.size + 1 + 1, 3, none⟩ = some (.int .i64 ms)) (first | exact ww _ kf | exact ww _ kd | exact ww _ kc | exact ww _ kz | exact ww _ (bdrew (Below.refl _ _))) (first | (go_at_call 16; refine (toZone_any o l len cap w.heap.size A _ HL.out (HP.out.below (bto B11 (by first | exact kd | exact kc | exact bdrew (Below.refl _ _) | fail))) (Nat.le_trans B11.size (Below.size (B := w11.heap.size) (w := w11) (by first | exact kd | exact kc | exact bdrew (Below.refl _ _) | fail))) (by omega)).mono ?_; rintro e wz ⟨g2, cap2, rfl, qz, hbz⟩; have kz : Below w11.heap.size w11 wz := bto (by first | exact kd | exact kc | exact bdrew (Below.refl _ _) | fail) hbz; have hcapz := own_cap qz; have hlc2 : l.length ≤ cap2 := hcapz.1; have hcm2 : cap2 ≤ 9223372036854775807 := hcapz.2) | (go_at_call 28; refine (toDate_any y mo d _).mono ?_; rintro e wd ⟨rfl, hbd⟩; have kd : Below w11.heap.size w11 wd := bto (by first | exact kz | exact kc | exact bdrew (Below.refl _ _) | fail) hbd; (first | (have qd := own_below qc hbd) | (have qd := own_below qz hbd) | skip)) | (go_at_call 29; refine (toClock_any h mi s ms _).mono ?_; rintro e wc ⟨rfl, hbc⟩; have kc : Below w11.heap.size w11 wc := bto (by first | exact kz | exact kd | exact bdrew (Below.refl _ _) | fail) hbc; (first | (have qc := own_below qd hbc) | (have qc := own_below qz hbc) | skip)) | (go_at_call 24; refine (impl_zi o y mo d h mi s ms l _ _ _ _ _ (HM.out.below (bto B11 (by first | exact kd | exact kc | exact kz | exact bdrew (Below.refl _ _) | fail))) rfl (Prs.own (by first | exact qd | exact qc | exact qz | fail)) (Nat.le_refl _) hlc2 hcm2).mono ?_; rintro e wf ⟨A9, c9', rfl, i9, hn9, hc9, hbf⟩; rw [← EL.out] at i9 hn9 ⊢; have kf : Below w11.heap.size w11 wf := bto (by first | exact kd | exact kc | exact kz | exact bdrew (Below.refl _ _) | fail) hbf; have i9' : IRow wf w11.heap.size A9 L := i9.more (Below.size (B := w11.heap.size) (w := w11) (by first | exact kd | exact kc | exact kz | exact bdrew (Below.refl _ _) | fail))))
            all_goals
              rename_i hS
              clear hS hbf i9 hn9 hc9 hcapz hlc2 hcm2
              (try clear qd)
              (try clear qc)
              (try clear qz)
              revert g2 cap2 wf A9 c9' kf i9'
              exact key.out
          case k =>
            intro g22 cap22 w13 A9 c9' k13 i9
            have I13 := hide (I11.out.below k13)
            have J13 := hide (J11.out.below k13)
            have K13 := hide i9
            have B13 := bto B11 k13
            clear X11 Y11 Z11 I11 J11 B11 k13 i9
            rw [HN.out]
            go_wp2_with fail
            refine (eqIntS_any L _ _ _ _ _ _ _ _ rfl K13.out I13.out hL7).mono ?_
            rintro e w14 ⟨rfl, hb14⟩
            have J14 := hide (J13.out.below hb14)
            have B14 := bto B13 hb14
            clear I13 J13 K13 B13 hb14
            rw [← HN.out]
            go_wp2_with fail
            refine (heldI_any _ w4.heap.size _ _ A5 1 J14.out hn7 (by omega) (by omega)).mono ?_
            rintro e w15 ⟨rfl, rfl⟩
            go_wp2_with fail
            go_ret
            exact ⟨rfl, B14⟩
end Go.Proofs.YtjdlffkbhaieaaaDoor
