/- The law FnExactZonePick returns true. -/
import Derived.Test.YtjdlffkbhaieaaaDoorZi5
import Derived.Test.YtjdlffkbhaieaaaDoorZi6
import Derived.Test.YtjdlffkbhaieaaaDoorSt8
import Derived.Test.YtjdlffkbhaieaaaDoorZn6
import Derived.Test.YtjdlffkbhaieaaaDoorShellZ
import Derived.Test.YtjdlffkbhaieaaaDoorShellI
import Derived.Test.YtjdlffkbhaieaaaDoorShellD
namespace Go.Proofs.YtjdlffkbhaieaaaDoor
open Go.RowKit
attribute [local go_sem] lt_cell

structure Box (G : Prop) : Prop where
  out : G
theorem two {G T : Prop} (k : G) (f : Box G → T) : T := f ⟨k⟩
set_option maxRecDepth 100000 in
set_option maxHeartbeats 4000000 in
theorem w_FnExactZonePick (w : World) (hM : MD w) (o : Int) (A : Option Addr) (len cap : Nat) (_ho : I64 o) (l : List R2) (hl : l.length = len) (hP : Prs w.heap.size w A l) (_hi : ∀ r ∈ l, I64 r.1 ∧ I64 r.2) (hc : len ≤ cap) (hm : cap ≤ maxLen) (xd : Int × Int × Int) (_hd : True) (xc : Int × Int × Int × Int) (_hc : True) (later : Bool) :
    Calls Tryd.prog 6 #[.agg #[.int .i64 o, .slice A len cap], .agg #[.int .i64 xd.1, .int .i64 xd.2.1, .int .i64 xd.2.2], .agg #[.int .i64 xc.1, .int .i64 xc.2.1, .int .i64 xc.2.2.1, .int .i64 xc.2.2.2], .bool later] w fun e w' => e = .returned (.bool true) ∧ Below w.heap.size w w' := by
  unfold maxLen at hm
  obtain ⟨y, mo, d⟩ := xd
  obtain ⟨h, mi, s, ms⟩ := xc
  have HL := hide hl
  have HP := hide hP
  have HM := hide hM
  have X0 := ((Blk.new w 24 #[.int .i64 o, .slice A len cap]).alloc (.cells #[.int .i64 y, .int .i64 mo, .int .i64 d] 53)).alloc (.cells #[.int .i64 h, .int .i64 mi, .int .i64 s, .int .i64 ms] 54)
  have Y0 := (Blk.newE (W := w.alloc (.cells #[.int .i64 o, .slice A len cap] 24)) (g := w.heap.size + 1) (t := 53) (cs := #[.int .i64 y, .int .i64 mo, .int .i64 d]) (by simp)).alloc (.cells #[.int .i64 h, .int .i64 mi, .int .i64 s, .int .i64 ms] 54)
  have Z0 := Blk.newE (W := (w.alloc (.cells #[.int .i64 o, .slice A len cap] 24)).alloc (.cells #[.int .i64 y, .int .i64 mo, .int .i64 d] 53)) (g := w.heap.size + 1 + 1) (t := 54) (cs := #[.int .i64 h, .int .i64 mi, .int .i64 s, .int .i64 ms]) (by simp)
  have B0 := bal (bal (bal (Below.refl w.heap.size w) (.cells #[.int .i64 o, .slice A len cap] 24)) (.cells #[.int .i64 y, .int .i64 mo, .int .i64 d] 53)) (.cells #[.int .i64 h, .int .i64 mi, .int .i64 s, .int .i64 ms] 54)
  clear hl hP hM
  by_cases hbig : (1048576 : Int) < len
  · go_enter Tryd.func6, Tryd.ntmps6
    go_wp2_with fail
    refine (szZone_any o len cap A _ _ (by omega) (by omega) (by omega)).mono ?_
    rintro e w1 ⟨rfl, hb1⟩
    rw [if_pos (by omega)]
    go_wp2_with fail
    go_ret
    exact ⟨rfl, bto B0 hb1⟩
  · have h0 : (0 : Int) ≤ 1048576 - len := by omega
    go_enter Tryd.func6, Tryd.ntmps6
    go_wp2_with fail
    refine (szZone_any o len cap A _ _ (by omega) (by omega) (by omega)).mono ?_
    rintro e w1 ⟨rfl, hb1⟩
    rw [if_neg (by omega)]
    have X1 := hide (X0.below hb1 X0.lt)
    have Y1 := hide (Y0.below hb1 Y0.lt)
    have Z1 := hide (Z0.below hb1 Z0.lt)
    have B1 := bto B0 hb1
    clear X0 Y0 Z0 B0 hb1
    obtain ⟨⟨v, ok⟩, ev⟩ : ∃ r, zpV o l y mo d h mi s ms later = r := ⟨_, rfl⟩
    have EV := hide ev
    have g1 : (ok != ok) = false := by simp
    have g2 : (v != v) = false := by simp
    clear ev
    have ww := fun (W' : World) (K : Below w1.heap.size w1 W') => c9 (X1.out.below K X1.out.lt) (Y1.out.below K Y1.out.lt) (Z1.out.below K Z1.out.lt)
    go_wp2_with fail
    apply two
    case f =>
      intro key
      go_region_held3 (fun w' => w'.cell? ⟨w.heap.size, 0, none⟩ = some (.int .i64 o) ∧ w'.cell? ⟨w.heap.size, 1, none⟩ = some (.slice A len cap) ∧ w'.cell? ⟨w.heap.size + 1, 0, none⟩ = some (.int .i64 y) ∧ w'.cell? ⟨w.heap.size + 1, 1, none⟩ = some (.int .i64 mo) ∧ w'.cell? ⟨w.heap.size + 1, 2, none⟩ = some (.int .i64 d) ∧ w'.cell? ⟨w.heap.size + 1 + 1, 0, none⟩ = some (.int .i64 h) ∧ w'.cell? ⟨w.heap.size + 1 + 1, 1, none⟩ = some (.int .i64 mi) ∧ w'.cell? ⟨w.heap.size + 1 + 1, 2, none⟩ = some (.int .i64 s) ∧ w'.cell? ⟨w.heap.size + 1 + 1, 3, none⟩ = some (.int .i64 ms)) (first | exact ww _ kf | exact ww _ kd | exact ww _ kc | exact ww _ kz | exact ww _ (bdrew (Below.refl _ _))) (first | (go_at_call 16; refine (toZone_any o l len cap w.heap.size A _ HL.out (HP.out.below (bto B1 (by first | exact kd | exact kc | exact bdrew (Below.refl _ _) | fail))) (Nat.le_trans B1.size (Below.size (B := w1.heap.size) (w := w1) (by first | exact kd | exact kc | exact bdrew (Below.refl _ _) | fail))) (by omega)).mono ?_; rintro e wz ⟨g2, cap2, rfl, qz, hbz⟩; have kz : Below w1.heap.size w1 wz := bto (by first | exact kd | exact kc | exact bdrew (Below.refl _ _) | fail) hbz) | (go_at_call 28; refine (toDate_any y mo d _).mono ?_; rintro e wd ⟨rfl, hbd⟩; have kd : Below w1.heap.size w1 wd := bto (by first | exact kz | exact kc | exact bdrew (Below.refl _ _) | fail) hbd; (first | (have qd := own_below qc hbd) | (have qd := own_below qz hbd) | skip)) | (go_at_call 29; refine (toClock_any h mi s ms _).mono ?_; rintro e wc ⟨rfl, hbc⟩; have kc : Below w1.heap.size w1 wc := bto (by first | exact kz | exact kd | exact bdrew (Below.refl _ _) | fail) hbc; (first | (have qc := own_below qd hbc) | (have qc := own_below qz hbc) | skip)) | (go_at_call 27; refine (spec_zp o y mo d h mi s ms later l _ _ _ _ _ rfl (Prs.own (by first | exact qd | exact qc | exact qz | fail)) (Nat.le_refl _)).mono ?_; rintro e wf ⟨rfl, hbf⟩; rw [EV.out]; have kf : Below w1.heap.size w1 wf := bto (by first | exact kd | exact kc | exact kz | exact bdrew (Below.refl _ _) | fail) hbf))
      all_goals
        rename_i hS
        clear hS hbf
        (try clear qd)
        (try clear qc)
        (try clear qz)
        revert g2 cap2 wf kf
        exact key.out
    case k =>
      intro g2 cap2 w2 k2
      have B2 := bto B1 k2
      have X2 := hide (X1.out.below k2 X1.out.lt)
      have Y2 := hide (Y1.out.below k2 Y1.out.lt)
      have Z2 := hide (Z1.out.below k2 Z1.out.lt)
      have x0 := X2.out.cell 0
      have x1 := X2.out.cell 1
      simp at x0 x1
      clear ww k2 X1 Y1 Z1
      go_wp2_with fail
      refine (toZone_any o l len cap w.heap.size A _ HL.out (HP.out.below B2) B2.size (by omega)).mono ?_
      rintro e w3 ⟨g3, cap3, rfl, ho3, hb3⟩
      have hcap := own_cap ho3
      have hcm3 : cap3 ≤ 9223372036854775807 := hcap.2
      have hlc3 : l.length ≤ cap3 := hcap.1
      obtain ⟨w4, hw4⟩ : ∃ W, W = w3.alloc (.cells #[.int .i64 o, .slice (some ⟨g3, 0, none⟩) l.length cap3] 36) := ⟨_, rfl⟩
      have N4 := hide (show Blk w4 w3.heap.size 36 #[.int .i64 o, .slice (some ⟨g3, 0, none⟩) l.length cap3] by rw [hw4]; exact Blk.new _ _ _)
      have P4 := hide (show Prs w4.heap.size w4 (some ⟨g3, 0, none⟩) l by rw [hw4]; exact Prs.own (ho3.alloc _))
      have X4 := hide (show Blk w4 w.heap.size 24 #[.int .i64 o, .slice A len cap] by rw [hw4]; exact (X2.out.below hb3 X2.out.lt).alloc _)
      have Y4 := hide (show Blk w4 (w.heap.size + 1) 53 #[.int .i64 y, .int .i64 mo, .int .i64 d] by rw [hw4]; exact (Y2.out.below hb3 Y2.out.lt).alloc _)
      have Z4 := hide (show Blk w4 (w.heap.size + 1 + 1) 54 #[.int .i64 h, .int .i64 mi, .int .i64 s, .int .i64 ms] by rw [hw4]; exact (Z2.out.below hb3 Z2.out.lt).alloc _)
      have B4 := hide (show Below w.heap.size w w4 by rw [hw4]; exact bal (bto B2 hb3) _)
      have HW4 := hide hw4
      clear ho3 hcap X2 Y2 Z2 x0 x1 hb3 hw4
      have ww := fun (W' : World) (K : Below w4.heap.size w4 W') => c9 (N4.out.below K N4.out.lt) (Y4.out.below K Y4.out.lt) (Z4.out.below K Z4.out.lt)
      go_wp2_with fail
      rw [← HW4.out]
      apply two
      case f =>
        intro key
        go_region_held3 (fun w' => w'.cell? ⟨w3.heap.size, 0, none⟩ = some (.int .i64 o) ∧ w'.cell? ⟨w3.heap.size, 1, none⟩ = some (.slice (some ⟨g3, 0, none⟩) l.length cap3) ∧ w'.cell? ⟨w.heap.size + 1, 0, none⟩ = some (.int .i64 y) ∧ w'.cell? ⟨w.heap.size + 1, 1, none⟩ = some (.int .i64 mo) ∧ w'.cell? ⟨w.heap.size + 1, 2, none⟩ = some (.int .i64 d) ∧ w'.cell? ⟨w.heap.size + 1 + 1, 0, none⟩ = some (.int .i64 h) ∧ w'.cell? ⟨w.heap.size + 1 + 1, 1, none⟩ = some (.int .i64 mi) ∧ w'.cell? ⟨w.heap.size + 1 + 1, 2, none⟩ = some (.int .i64 s) ∧ w'.cell? ⟨w.heap.size + 1 + 1, 3, none⟩ = some (.int .i64 ms)) (first | exact ww _ kf | exact ww _ kd | exact ww _ kc | exact ww _ (bdrew (Below.refl _ _))) (first | (go_at_call 28; refine (toDate_any y mo d _).mono ?_; rintro e wd ⟨rfl, hbd⟩; have kd : Below w4.heap.size w4 wd := bto (by first | exact kc | exact bdrew (Below.refl _ _) | fail) hbd) | (go_at_call 29; refine (toClock_any h mi s ms _).mono ?_; rintro e wc ⟨rfl, hbc⟩; have kc : Below w4.heap.size w4 wc := bto (by first | exact kd | exact bdrew (Below.refl _ _) | fail) hbc) | (go_at_call 30; refine (impl_zp o y mo d h mi s ms later l _ _ w4.heap.size _ _ (HM.out.below (bto B4.out (by first | exact kd | exact kc | exact bdrew (Below.refl _ _) | fail))) rfl (P4.out.below (by first | exact kd | exact kc | exact bdrew (Below.refl _ _) | fail)) (Below.size (B := w4.heap.size) (w := w4) (by first | exact kd | exact kc | exact bdrew (Below.refl _ _) | fail)) hlc3 hcm3).mono ?_; rintro e wf ⟨rfl, hbf⟩; rw [EV.out]; have kf : Below w4.heap.size w4 wf := bto (by first | exact kd | exact kc | exact bdrew (Below.refl _ _) | fail) hbf))
        all_goals
          rename_i hS
          clear hS hbf
          revert wf kf
          exact key.out
      case k =>
        intro w5 k5
        have B5 := bto B4.out k5
        have N5 := hide (N4.out.below k5 N4.out.lt)
        have X5 := hide (X4.out.below k5 X4.out.lt)
        have P5 := hide (P4.out.below k5)
        have hn5 := N5.out.lt
        have hx5 := X5.out.lt
        have hz45 : w4.heap.size ≤ w5.heap.size := k5.size
        clear ww N4 X4 Y4 Z4 P4 B4 HW4 k5
        have hll : l.length ≤ 1048576 := by have := HL.out; omega
        go_wp2_with fail
        go_region_held3 (fun w' => w'.cell? ⟨w3.heap.size, 0, none⟩ = some (.int .i64 o) ∧ w'.cell? ⟨w3.heap.size, 1, none⟩ = some (.slice (some ⟨g3, 0, none⟩) l.length cap3) ∧ w'.cell? ⟨w.heap.size, 0, none⟩ = some (.int .i64 o) ∧ w'.cell? ⟨w.heap.size, 1, none⟩ = some (.slice A len cap)) (first | exact ⟨N5.out.drew.cell 0, N5.out.drew.cell 1, X5.out.drew.cell 0, X5.out.drew.cell 1⟩ | exact ⟨N6.cell 0, N6.cell 1, X6.cell 0, X6.cell 1⟩ | exact ⟨N7.cell 0, N7.cell 1, X7.cell 0, X7.cell 1⟩) (first | (go_at_call 16; refine (toZone_any o l len cap w.heap.size A _ HL.out (HP.out.below (bdrew B5)) (Below.size (B := w.heap.size) (w := w) (bdrew B5)) (by omega)).mono ?_; rintro e w6 ⟨g6, cap6, rfl, ho6, hb6⟩; have P6 := Prs.own ho6; have N6 := N5.out.drew.below hb6 N5.out.lt; have X6 := X5.out.drew.below hb6 X5.out.lt; have hs6 := hb6.size) | (go_at_call 19; refine (eqZone_same o l _ _ _ w6.heap.size _ _ _ rfl ((P5.out.drew.below (hb6.mono hz45)).more (Nat.le_trans hz45 hs6)) P6 (Nat.le_refl _) hll).mono ?_; rintro e w7 ⟨rfl, hb7⟩; have N7 := N6.below hb7 N6.lt; have X7 := X6.below hb7 X6.lt))
        all_goals
          go_wp2_with fail
          go_ret
          exact ⟨rfl, bto (bto (bdrew B5) hb6) hb7⟩
end Go.Proofs.YtjdlffkbhaieaaaDoor
