/- Contracts: ZonePick (the program's and the reference's). -/
import Derived.Test.YtjdlffkbhaieaaaDoorZi4
namespace Go.Proofs.YtjdlffkbhaieaaaDoor
open Go.RowKit
attribute [local go_sem] lt_cell

/-- One of the instants, or one beside the gap. -/
noncomputable def pickOf (o : Int) (l : List R2) (loc : Int) (later : Bool) : Int :=
  if insS o l loc (l.length + 1) = [] then (if later then iA o l loc (gapI o l loc) else iA o l loc (gapI o l loc + 1))
  else (if later then (insS o l loc (l.length + 1)).getD ((insS o l loc (l.length + 1)).length - 1) 0 else (insS o l loc (l.length + 1)).getD 0 0)
noncomputable def zpV (o : Int) (l : List R2) (y mo d h mi s ms : Int) (later : Bool) : Int × Bool := if zdc o l y mo d h mi s ms then (pickOf o l (locOf y mo d h mi s ms) later, true) else (0, false)
theorem zpV_no {o : Int} {l : List R2} {y mo d h mi s ms : Int} {later : Bool} (hz : zdc o l y mo d h mi s ms = false) : zpV o l y mo d h mi s ms later = (0, false) := by unfold zpV; rw [hz]; rfl
theorem zpV_yes {o : Int} {l : List R2} {y mo d h mi s ms : Int} {later : Bool} (h1 : zvB o l = true) (h2 : vld y mo d = true) (h3 : cvB h mi s ms = true) : zpV o l y mo d h mi s ms later = (pickOf o l (locOf y mo d h mi s ms) later, true) := by unfold zpV zdc; rw [h1, h2, h3]; rfl
theorem pick_one {o : Int} {l : List R2} {loc : Int} (h : 0 < (insS o l loc (l.length + 1)).length) : pickOf o l loc true = (insS o l loc (l.length + 1)).getD ((insS o l loc (l.length + 1)).length - 1) 0 ∧ pickOf o l loc false = (insS o l loc (l.length + 1)).getD 0 0 := by
  have hne : insS o l loc (l.length + 1) ≠ [] := fun e => by rw [e] at h; simp at h
  unfold pickOf
  rw [if_neg hne, if_neg hne]
  exact ⟨rfl, rfl⟩
theorem pick_gap {o : Int} {l : List R2} {loc : Int} (h : (insS o l loc (l.length + 1)).length = 0) {k : Nat} (h1 : gapB o l loc k = true) (h2 : ∀ j, j < k → gapB o l loc j = false) : pickOf o l loc true = iA o l loc k ∧ pickOf o l loc false = iA o l loc (k + 1) := by
  have he : insS o l loc (l.length + 1) = [] := List.eq_nil_of_length_eq_zero h
  unfold pickOf
  rw [if_pos he, if_pos he, gapI_eq he h1 h2]
  exact ⟨rfl, rfl⟩
theorem gap_more {o : Int} {l : List R2} {loc : Int} (h : (insS o l loc (l.length + 1)).length = 0) {k : Nat} (h2 : ∀ j, j < k → gapB o l loc j = false) : k < l.length := by
  obtain ⟨g1, g2, g3⟩ := gapI_law (List.eq_nil_of_length_eq_zero h)
  rcases Nat.lt_or_ge (gapI o l loc) k with h' | h'
  · rw [h2 _ h'] at g2; simp at g2
  · omega
section
variable (o y mo d h mi s ms : Int) (later : Bool) (l : List R2) (len cap B : Nat) (A : Option Addr) (w : World)
set_option maxRecDepth 100000 in
set_option maxHeartbeats 4000000 in
theorem spec_zp (hl : l.length = len) (hP : Prs B w A l) (hB : B ≤ w.heap.size) :
    Calls Tryd.prog 27 #[.agg #[.int .i64 o, .slice A len cap], .agg #[.int .i64 y, .int .i64 mo, .int .i64 d], .agg #[.int .i64 h, .int .i64 mi, .int .i64 s, .int .i64 ms], .bool later] w (RetIB (zpV o l y mo d h mi s ms later) w) := by
  have HL := hide hl
  have HP := hide hP
  have X0 := ((Blk.new w 36 #[.int .i64 o, .slice A len cap]).alloc (.cells #[.int .i64 y, .int .i64 mo, .int .i64 d] 27)).alloc (.cells #[.int .i64 h, .int .i64 mi, .int .i64 s, .int .i64 ms] 29)
  have Y0 := (Blk.newE (W := w.alloc (.cells #[.int .i64 o, .slice A len cap] 36)) (g := w.heap.size + 1) (t := 27) (cs := #[.int .i64 y, .int .i64 mo, .int .i64 d]) (by simp)).alloc (.cells #[.int .i64 h, .int .i64 mi, .int .i64 s, .int .i64 ms] 29)
  have Z0 := Blk.newE (W := (w.alloc (.cells #[.int .i64 o, .slice A len cap] 36)).alloc (.cells #[.int .i64 y, .int .i64 mo, .int .i64 d] 27)) (g := w.heap.size + 1 + 1) (t := 29) (cs := #[.int .i64 h, .int .i64 mi, .int .i64 s, .int .i64 ms]) (by simp)
  have B0 := bal (bal (bal (Below.refl w.heap.size w) (.cells #[.int .i64 o, .slice A len cap] 36)) (.cells #[.int .i64 y, .int .i64 mo, .int .i64 d] 27)) (.cells #[.int .i64 h, .int .i64 mi, .int .i64 s, .int .i64 ms] 29)
  clear hl hP
  have HV := hide HP.out.view
  have hs : len = 0 ∨ ∃ b o, A = some ⟨b, o, none⟩ := by
    rcases HP.out.view with h | ⟨b, o, h, _⟩
    · exact .inl (by have := HL.out; omega)
    · exact .inr ⟨b, o, h⟩
  go_enter Tryd.func27, Tryd.ntmps27
  go_wp2_with fail
  refine (spec_zv o l len cap B A _ HL.out (HP.out.below (B0.mono hB)) (Nat.le_trans hB B0.size)).mono ?_
  rintro e w1 ⟨rfl, hb1⟩
  have X1 := hide (X0.below hb1 X0.lt)
  have Y1 := hide (Y0.below hb1 Y0.lt)
  have Z1 := hide (Z0.below hb1 Z0.lt)
  have B1 := bto B0 hb1
  clear hb1
  have x0 := X1.out.cell 0
  have x1 := X1.out.cell 1
  have y0 := Y1.out.cell 0
  have y1 := Y1.out.cell 1
  have y2 := Y1.out.cell 2
  have z0 := Z1.out.cell 0
  have z1 := Z1.out.cell 1
  have z2 := Z1.out.cell 2
  have z3 := Z1.out.cell 3
  simp at x0 x1 y0 y1 y2 z0 z1 z2 z3
  have l1 := Z1.out.lt
  have m1 : w.heap.size + 1 < w1.heap.size := by omega
  have k1 : w.heap.size < w1.heap.size := by omega
  cases hz : zvB o l with
  | false =>
    have NO := hide (zpV_no (later := later) (show zdc o l y mo d h mi s ms = false by unfold zdc; rw [hz]; rfl))
    clear x0 x1 y0 y1 y2 z0 z1 z2 z3
    go_wp2_with fail
    go_returns
    exact ⟨by rw [NO.out]; rfl, B1⟩
  | true =>
    have Hz := hide hz
    clear hz
    go_wp2_with fail
    refine (spec_dateValid _ _ _ _).mono ?_
    rintro e w2 ⟨rfl, hb2⟩
    clear x0 x1 y0 y1 y2 z0 z1 z2 z3
    have X2 := hide (X1.out.below hb2 X1.out.lt)
    have Y2 := hide (Y1.out.below hb2 Y1.out.lt)
    have Z2 := hide (Z1.out.below hb2 Z1.out.lt)
    have B2 := bto B1 hb2
    clear hb2
    have x0 := X2.out.cell 0
    have x1 := X2.out.cell 1
    have y0 := Y2.out.cell 0
    have y1 := Y2.out.cell 1
    have y2 := Y2.out.cell 2
    have z0 := Z2.out.cell 0
    have z1 := Z2.out.cell 1
    have z2 := Z2.out.cell 2
    have z3 := Z2.out.cell 3
    simp at x0 x1 y0 y1 y2 z0 z1 z2 z3
    have l2 := Z2.out.lt
    have m2 : w.heap.size + 1 < w2.heap.size := by omega
    have k2 : w.heap.size < w2.heap.size := by omega
    have hz := Hz.out
    clear X1 Y1 Z1
    cases hv : vld y mo d with
    | false =>
      have NO := hide (zpV_no (later := later) (show zdc o l y mo d h mi s ms = false by unfold zdc; rw [hz, hv]; rfl))
      clear x0 x1 y0 y1 y2 z0 z1 z2 z3
      go_wp2_with fail
      go_returns
      exact ⟨by rw [NO.out]; rfl, B2⟩
    | true =>
      have Hv := hide hv
      clear hv hz
      go_wp2_with fail
      refine (spec_cv _ _ _ _ _).mono ?_
      rintro e w3 ⟨rfl, hb3⟩
      clear x0 x1 y0 y1 y2 z0 z1 z2 z3
      have X3 := hide (X2.out.below hb3 X2.out.lt)
      have Y3 := hide (Y2.out.below hb3 Y2.out.lt)
      have Z3 := hide (Z2.out.below hb3 Z2.out.lt)
      have B3 := bto B2 hb3
      clear hb3
      have x0 := X3.out.cell 0
      have x1 := X3.out.cell 1
      have y0 := Y3.out.cell 0
      have y1 := Y3.out.cell 1
      have y2 := Y3.out.cell 2
      have z0 := Z3.out.cell 0
      have z1 := Z3.out.cell 1
      have z2 := Z3.out.cell 2
      have z3 := Z3.out.cell 3
      simp at x0 x1 y0 y1 y2 z0 z1 z2 z3
      have l3 := Z3.out.lt
      have m3 : w.heap.size + 1 < w3.heap.size := by omega
      have k3 : w.heap.size < w3.heap.size := by omega
      have hz := Hz.out
      have hv := Hv.out
      clear X2 Y2 Z2
      cases hcv : cvB h mi s ms with
      | false =>
        have NO := hide (zpV_no (later := later) (show zdc o l y mo d h mi s ms = false by unfold zdc; rw [hz, hv, hcv]; rfl))
        clear x0 x1 y0 y1 y2 z0 z1 z2 z3
        go_wp2_with fail
        go_returns
        exact ⟨by rw [NO.out]; rfl, B3⟩
      | true =>
        obtain ⟨q1, q2⟩ := locOf_bd hv hcv
        have HF := hide (zpV_yes (later := later) hz hv hcv)
        have hL : ∀ W : World, Calls Tryd.prog 61 #[.agg #[.int .i64 y, .int .i64 mo, .int .i64 d], .agg #[.int .i64 h, .int .i64 mi, .int .i64 s, .int .i64 ms]] W fun e w' => e = .returned (.int .i64 (locOf y mo d h mi s ms)) ∧ Below W.heap.size W w' := fun W => l22Local_any y mo d h mi s ms W hv hcv
        generalize locOf y mo d h mi s ms = loc at q1 q2 hL HF
        go_wp2_with fail
        refine (hL _).mono ?_
        rintro e w4 ⟨rfl, hb4⟩
        have B4 := bto B3 hb4
        have X4 := hide (X3.out.below hb4 X3.out.lt)
        have x0 := X4.out.cell 0
        have x1 := X4.out.cell 1
        have k4 := X4.out.lt
        simp at x0 x1
        clear hb4 hL y0 y1 y2 z0 z1 z2 z3
        go_wp2_with fail
        refine (l22Instants_any o loc l len cap B A _ HL.out (HP.out.below (B4.mono hB)) (Nat.le_trans hB B4.size) (zv_of hz) q1 q2).mono ?_
        rintro e w5 ⟨g, cap5, rfl, ho, hb5⟩
        obtain ⟨n, en⟩ : ∃ n, n = (insS o l loc (l.length + 1)).length := ⟨_, rfl⟩
        rw [← en] at ho ⊢
        have HN := hide en
        have B5 := bto B4 hb5
        have X5 := hide (X4.out.below hb5 X4.out.lt)
        clear en hb5 X4
        by_cases h0 : n = 0
        · have HE := hide (show (insS o l loc (l.length + 1)).length = 0 by rw [← HN.out]; exact h0)
          subst h0
          have x0 := X5.out.cell 0
          have x1 := X5.out.cell 1
          have k5 := X5.out.lt
          simp at x0 x1
          clear ho HN
          go_wp2_with fail
          refine (l22Offsets_any o l len cap B A _ HL.out (HP.out.below (B5.mono hB)) (Nat.le_trans hB B5.size) (by have := (zv_of hz).len; have := HL.out; omega)).mono ?_
          rintro e w6 ⟨ob, oc, rfl, hO, hb6⟩
          rw [show (offs o l).length = len + 1 by rw [offs_len, HL.out]] at hO ⊢
          have HO := hide (hO)
          have hob := hO.lt ob rfl
          have X6 := hide (X5.out.below hb6 X5.out.lt)
          have B6 := hide (bto B5 hb6)
          have Hzv := hide (zv_of hz)
          have hlen : len ≤ 6 := by have := (zv_of hz).len; have := HL.out; omega
          clear hO hb6 X5 x0 x1 hz hv hcv
          go_wp2_with fail
          go_loopw [13] (fun i wr => ∃ k : Nat, k < len ∧ i = .int .i64 k ∧ Hid (∀ j, j < k → gapB o l loc j = false) ∧ Hid (Below w6.heap.size w6 wr)) (fun i _ => len - (intOf i).toNat)
          case atStart => exact ⟨0, by have := gap_more HE.out (k := 0) (by omega); have := HL.out; omega, rfl, hide (by omega), hide (Below.refl _ _)⟩
          case round =>
            obtain ⟨k, hk, rfl, hG, hb⟩ := hrel
            have XR := hide (X6.out.below hb.out X6.out.lt)
            have OR := hide (own_below HO.out hb.out)
            have BR := bto B6.out hb.out
            have x0 := XR.out.cell 0
            have x1 := XR.out.cell 1
            have kr := XR.out.lt
            have hor := OR.out.lt ob rfl
            have hsz := BR.size
            simp at x0 x1
            obtain ⟨p0, hp0⟩ : ∃ p, p = oA o l k := ⟨_, rfl⟩
            obtain ⟨p1, hp1⟩ : ∃ p, p = oA o l (k + 1) := ⟨_, rfl⟩
            have co0 : wr.cell? ⟨ob, k, none⟩ = some (.int .i64 p0) := by
              have h1 := OR.out.cellAt k (by omega)
              rw [flatI_get _ k (by rw [offs_len, HL.out]; omega)] at h1
              rw [hp0]
              exact h1
            have co1 : wr.cell? ⟨ob, k + 1, none⟩ = some (.int .i64 p1) := by
              have h1 := OR.out.cellAt (k + 1) (by omega)
              rw [flatI_get _ (k + 1) (by rw [offs_len, HL.out]; omega)] at h1
              rw [hp1]
              exact h1
            have hb0 := Hzv.out.off k (by rw [HL.out]; omega)
            have hb1 := Hzv.out.off (k + 1) (by rw [HL.out]; omega)
            rw [← hp0] at hb0
            rw [← hp1] at hb1
            rcases hs with hs | ⟨b0, o0, rfl⟩
            · omega
            obtain ⟨x, hx⟩ : ∃ x, x = tA l k := ⟨_, rfl⟩
            have hcs : b0 < B ∧ w.cell? ⟨b0, o0 + k * 2, none⟩ = some (.int .i64 x) := by
              rcases HV.out with h | ⟨b1, o1, e1, h1, h2⟩
              · rw [HL.out] at h; omega
              · cases e1
                exact ⟨h1, by rw [hx]; exact (h2 k (by rw [HL.out]; omega)).1⟩
            obtain ⟨hbB, c0⟩ := hcs
            replace c0 := (BR.cell (p := ⟨b0, o0 + k * 2, none⟩) (show b0 < w.heap.size by omega)).trans c0
            have n1 : b0 < wr.heap.size := by omega
            have n2 : b0 ≤ wr.heap.size := by omega
            have HGp := hide (show gapB o l loc k = (decide (loc - 60000 * p1 < x) && decide (x ≤ loc - 60000 * p0)) by unfold gapB iA; rw [hp0, hp1, hx])
            have H0 := hide (show loc - 60000 * p0 = iA o l loc k by unfold iA; rw [hp0])
            have H1 := hide (show loc - 60000 * p1 = iA o l loc (k + 1) by unfold iA; rw [hp1])
            clear hp0 hp1 hx
            have e0 : IntKind.i64.wrap (60000 * p0) = 60000 * p0 := IntWalk.i64_in _ (by omega)
            have e1 : IntKind.i64.wrap (loc - 60000 * p0) = loc - 60000 * p0 := IntWalk.i64_in _ (by omega)
            have e2 : IntKind.i64.wrap (60000 * p1) = 60000 * p1 := IntWalk.i64_in _ (by omega)
            have e3 : IntKind.i64.wrap (loc - 60000 * p1) = loc - 60000 * p1 := IntWalk.i64_in _ (by omega)
            have e4 : IntKind.i64.wrap ((k : Int) + 1) = (k : Int) + 1 := IntWalk.i64_in _ (by omega)
            have e5 : ((k : Int) + 1).toNat = k + 1 := by omega
            have e6 : (0 : Int) ≤ (k : Int) + 1 := by omega
            have e7 : (k : Int) + 1 < (len : Int) + 1 := by omega
            have e8 : (k : Int) < (len : Int) + 1 := by omega
            by_cases hc1 : x ≤ loc - 60000 * p1
            · have g1 : decide (x ≤ loc - 60000 * p1) = true := decide_eq_true hc1
              have HGf := hide (show gapB o l loc k = false by rw [HGp.out, show decide (loc - 60000 * p1 < x) = false from decide_eq_false (by omega)]; rfl)
              clear hc1 HGp
              go_wp2_with fail
              refine region_below (by kernel_rfl) (by kernel_rfl) ?_
              repeat (go_big_quiet_step (fail))
              refine wpQuiet_nil ?_
              rintro wq ⟨⟨_, hq⟩, rfl⟩
              go_wp2
              go_roundw
              case rel =>
                have hG2 := upto hG.out HGf.out
                refine ⟨k + 1, by have := gap_more HE.out hG2; rw [HL.out] at this; exact this, by go_num, hide hG2, hide (bto hb.out hq)⟩
              case measure => simp [intOf]; omega
            · have g1 : decide (x ≤ loc - 60000 * p1) = false := decide_eq_false hc1
              by_cases hc0 : loc - 60000 * p0 < x
              · have g2 : decide (loc - 60000 * p0 < x) = true := decide_eq_true hc0
                have HGf := hide (show gapB o l loc k = false by rw [HGp.out, show decide (x ≤ loc - 60000 * p0) = false from decide_eq_false (by omega)]; simp)
                clear hc1 hc0 HGp
                go_wp2_with fail
                refine region_below (by kernel_rfl) (by kernel_rfl) ?_
                repeat (go_big_quiet_step (fail))
                refine wpQuiet_nil ?_
                rintro wq ⟨⟨_, hq⟩, rfl⟩
                go_wp2
                go_roundw
                case rel =>
                  have hG2 := upto hG.out HGf.out
                  refine ⟨k + 1, by have := gap_more HE.out hG2; rw [HL.out] at this; exact this, by go_num, hide hG2, hide (bto hb.out hq)⟩
                case measure => simp [intOf]; omega
              · have g2 : decide (loc - 60000 * p0 < x) = false := decide_eq_false hc0
                have HGt := hide (show gapB o l loc k = true by rw [HGp.out, show decide (loc - 60000 * p1 < x) = true from decide_eq_true (by omega), show decide (x ≤ loc - 60000 * p0) = true from decide_eq_true (by omega)]; rfl)
                clear hc1 hc0 HGp
                go_wp2_with fail
                refine region_below (by kernel_rfl) (by kernel_rfl) ?_
                repeat (go_big_quiet_step (fail))
                refine wpQuiet_nil ?_
                rintro wq ⟨⟨_, hq⟩, rfl⟩
                have OQ := hide (own_below OR.out hq)
                have d0 := (hq.cell (p := ⟨ob, k, none⟩) hor.2).trans co0
                have d1 := (hq.cell (p := ⟨ob, k + 1, none⟩) hor.2).trans co1
                have hP2 := hide (pick_gap HE.out HGt.out hG.out)
                cases later with
                | true =>
                  go_wp2
                  go_returns
                  exact ⟨by rw [HF.out, hP2.out.1, ← H0.out]; rfl, bto BR hq⟩
                | false =>
                  go_wp2
                  go_returns
                  exact ⟨by rw [HF.out, hP2.out.2, ← H1.out]; rfl, bto BR hq⟩
        · have hn0 : 0 < n := by omega
          have HP2 := hide (pick_one (o := o) (l := l) (loc := loc) (by rw [← HN.out]; exact hn0))
          have g0 : decide ((0 : Int) < (n : Int)) = true := by simp; omega
          have c0 := ho.cellAt 0 (by omega)
          have c1 := ho.cellAt (n - 1) (by omega)
          rw [flatI_get _ 0 (by rw [← HN.out]; omega)] at c0
          rw [flatI_get _ (n - 1) (by rw [← HN.out]; omega)] at c1
          have hn6 : n ≤ l.length + 1 := by rw [HN.out]; exact insS_len _ _ _ _
          have hl6 := (zv_of hz).len
          have e1 : IntKind.i64.wrap ((n : Int) - 1) = (n : Int) - 1 := IntWalk.i64_in _ (by omega)
          have e2 : ((n : Int) - 1).toNat = n - 1 := by omega
          have e3 : (0 : Int) ≤ (n : Int) - 1 := by omega
          have e4 : (n : Int) - 1 < (n : Int) := by omega
          have e5 : (0 : Int) < (n : Int) := by omega
          clear ho h0
          cases later with
          | true =>
            go_wp2
            go_returns
            exact ⟨by rw [HF.out, HP2.out.1, ← HN.out]; rfl, B5⟩
          | false =>
            go_wp2
            go_returns
            exact ⟨by rw [HF.out, HP2.out.2]; rfl, B5⟩
set_option maxRecDepth 100000 in
set_option maxHeartbeats 4000000 in
theorem impl_zp (hM : MD w) (hl : l.length = len) (hP : Prs B w A l) (hB : B ≤ w.heap.size) (hc : len ≤ cap) (hm : cap ≤ 9223372036854775807) :
    Calls Tryd.prog 30 #[.agg #[.int .i64 o, .slice A len cap], .agg #[.int .i64 y, .int .i64 mo, .int .i64 d], .agg #[.int .i64 h, .int .i64 mi, .int .i64 s, .int .i64 ms], .bool later] w (RetIB (zpV o l y mo d h mi s ms later) w) := by
  have HL := hide hl
  have HP := hide hP
  have HM := hide hM
  have X0 := ((Blk.new w 36 #[.int .i64 o, .slice A len cap]).alloc (.cells #[.int .i64 y, .int .i64 mo, .int .i64 d] 27)).alloc (.cells #[.int .i64 h, .int .i64 mi, .int .i64 s, .int .i64 ms] 29)
  have Y0 := (Blk.newE (W := w.alloc (.cells #[.int .i64 o, .slice A len cap] 36)) (g := w.heap.size + 1) (t := 27) (cs := #[.int .i64 y, .int .i64 mo, .int .i64 d]) (by simp)).alloc (.cells #[.int .i64 h, .int .i64 mi, .int .i64 s, .int .i64 ms] 29)
  have Z0 := Blk.newE (W := (w.alloc (.cells #[.int .i64 o, .slice A len cap] 36)).alloc (.cells #[.int .i64 y, .int .i64 mo, .int .i64 d] 27)) (g := w.heap.size + 1 + 1) (t := 29) (cs := #[.int .i64 h, .int .i64 mi, .int .i64 s, .int .i64 ms]) (by simp)
  have B0 := bal (bal (bal (Below.refl w.heap.size w) (.cells #[.int .i64 o, .slice A len cap] 36)) (.cells #[.int .i64 y, .int .i64 mo, .int .i64 d] 27)) (.cells #[.int .i64 h, .int .i64 mi, .int .i64 s, .int .i64 ms] 29)
  clear hl hP hM
  have HV := hide HP.out.view
  have hs : len = 0 ∨ ∃ b o, A = some ⟨b, o, none⟩ := by
    rcases HP.out.view with h | ⟨b, o, h, _⟩
    · exact .inl (by have := HL.out; omega)
    · exact .inr ⟨b, o, h⟩
  go_enter Tryd.func30, Tryd.ntmps30
  go_wp2_with fail
  refine (impl_zv o l len cap B A _ HL.out (HP.out.below (B0.mono hB)) (Nat.le_trans hB B0.size)).mono ?_
  rintro e w1 ⟨rfl, hb1⟩
  have X1 := hide (X0.below hb1 X0.lt)
  have Y1 := hide (Y0.below hb1 Y0.lt)
  have Z1 := hide (Z0.below hb1 Z0.lt)
  have B1 := bto B0 hb1
  clear hb1
  have x0 := X1.out.cell 0
  have x1 := X1.out.cell 1
  have y0 := Y1.out.cell 0
  have y1 := Y1.out.cell 1
  have y2 := Y1.out.cell 2
  have z0 := Z1.out.cell 0
  have z1 := Z1.out.cell 1
  have z2 := Z1.out.cell 2
  have z3 := Z1.out.cell 3
  simp at x0 x1 y0 y1 y2 z0 z1 z2 z3
  have l1 := Z1.out.lt
  have m1 : w.heap.size + 1 < w1.heap.size := by omega
  have k1 : w.heap.size < w1.heap.size := by omega
  cases hz : zvB o l with
  | false =>
    have NO := hide (zpV_no (later := later) (show zdc o l y mo d h mi s ms = false by unfold zdc; rw [hz]; rfl))
    clear x0 x1 y0 y1 y2 z0 z1 z2 z3
    go_wp2_with fail
    go_returns
    exact ⟨by rw [NO.out]; rfl, B1⟩
  | true =>
    have Hz := hide hz
    clear hz
    go_wp2_with fail
    refine (impl_dateValid _ _ _ _ (HM.out.below B1)).mono ?_
    rintro e w2 ⟨rfl, hb2⟩
    clear x0 x1 y0 y1 y2 z0 z1 z2 z3
    have X2 := hide (X1.out.below hb2 X1.out.lt)
    have Y2 := hide (Y1.out.below hb2 Y1.out.lt)
    have Z2 := hide (Z1.out.below hb2 Z1.out.lt)
    have B2 := bto B1 hb2
    clear hb2
    have x0 := X2.out.cell 0
    have x1 := X2.out.cell 1
    have y0 := Y2.out.cell 0
    have y1 := Y2.out.cell 1
    have y2 := Y2.out.cell 2
    have z0 := Z2.out.cell 0
    have z1 := Z2.out.cell 1
    have z2 := Z2.out.cell 2
    have z3 := Z2.out.cell 3
    simp at x0 x1 y0 y1 y2 z0 z1 z2 z3
    have l2 := Z2.out.lt
    have m2 : w.heap.size + 1 < w2.heap.size := by omega
    have k2 : w.heap.size < w2.heap.size := by omega
    have hz := Hz.out
    clear X1 Y1 Z1
    cases hv : vld y mo d with
    | false =>
      have NO := hide (zpV_no (later := later) (show zdc o l y mo d h mi s ms = false by unfold zdc; rw [hz, hv]; rfl))
      clear x0 x1 y0 y1 y2 z0 z1 z2 z3
      go_wp2_with fail
      go_returns
      exact ⟨by rw [NO.out]; rfl, B2⟩
    | true =>
      have Hv := hide hv
      clear hv hz
      go_wp2_with fail
      refine (impl_cv _ _ _ _ _).mono ?_
      rintro e w3 ⟨rfl, hb3⟩
      clear x0 x1 y0 y1 y2 z0 z1 z2 z3
      have X3 := hide (X2.out.below hb3 X2.out.lt)
      have Y3 := hide (Y2.out.below hb3 Y2.out.lt)
      have Z3 := hide (Z2.out.below hb3 Z2.out.lt)
      have B3 := bto B2 hb3
      clear hb3
      have x0 := X3.out.cell 0
      have x1 := X3.out.cell 1
      have y0 := Y3.out.cell 0
      have y1 := Y3.out.cell 1
      have y2 := Y3.out.cell 2
      have z0 := Z3.out.cell 0
      have z1 := Z3.out.cell 1
      have z2 := Z3.out.cell 2
      have z3 := Z3.out.cell 3
      simp at x0 x1 y0 y1 y2 z0 z1 z2 z3
      have l3 := Z3.out.lt
      have m3 : w.heap.size + 1 < w3.heap.size := by omega
      have k3 : w.heap.size < w3.heap.size := by omega
      have hz := Hz.out
      have hv := Hv.out
      clear X2 Y2 Z2
      cases hcv : cvB h mi s ms with
      | false =>
        have NO := hide (zpV_no (later := later) (show zdc o l y mo d h mi s ms = false by unfold zdc; rw [hz, hv, hcv]; rfl))
        clear x0 x1 y0 y1 y2 z0 z1 z2 z3
        go_wp2_with fail
        go_returns
        exact ⟨by rw [NO.out]; rfl, B3⟩
      | true =>
        have HF := hide (zpV_yes (later := later) hz hv hcv)
        obtain ⟨loc, eloc⟩ : ∃ loc, loc = locOf y mo d h mi s ms := ⟨_, rfl⟩
        rw [← eloc] at HF
        go_wp2_with fail
        refine (shown_any o y mo d h mi s ms loc l len cap B A _ (HM.out.below B3) HL.out (HP.out.below (B3.mono hB)) (Nat.le_trans hB B3.size) (zv_of hz) hv hcv eloc hc hm).mono ?_
        rintro e w5 ⟨g, cap5, rfl, ho, hb5⟩
        obtain ⟨n, en⟩ : ∃ n, n = (insS o l loc (l.length + 1)).length := ⟨_, rfl⟩
        rw [← en] at ho ⊢
        have HN := hide en
        have Hloc := hide eloc
        have B5 := bto B3 hb5
        have X5 := hide (X3.out.below hb5 X3.out.lt)
        have Y5 := hide (Y3.out.below hb5 Y3.out.lt)
        have Z5 := hide (Z3.out.below hb5 Z3.out.lt)
        clear en hb5 X3 Y3 Z3 x0 x1 y0 y1 y2 z0 z1 z2 z3 eloc
        by_cases h0 : n = 0
        · have HE := hide (show (insS o l loc (l.length + 1)).length = 0 by rw [← HN.out]; exact h0)
          subst h0
          have x0 := X5.out.cell 0
          have x1 := X5.out.cell 1
          have k5 := X5.out.lt
          simp at x0 x1
          have Hzv := hide (zv_of hz)
          have Hv := hide hv
          have Hcv := hide hcv
          clear ho HN hz hv hcv
          go_wp2_with fail
          go_loopw [11, 51] (fun u i wr => ∃ (k : Nat) (p : Int), k ≤ len ∧ i = .int .i64 k ∧ u = .int .i64 p ∧ Hid (p = oA o l k) ∧ Hid (∀ j, j < k → gapB o l loc j = false) ∧ Hid (Below w5.heap.size w5 wr)) (fun _ i _ => len - (intOf i).toNat)
          case atStart => exact ⟨0, o, by omega, rfl, rfl, hide (oA_0 o l).symm, hide (by omega), hide (Below.refl _ _)⟩
          case round =>
            obtain ⟨k, p0, hk, rfl, rfl, hp0, hG, hb⟩ := hrel
            have hk2 := gap_more HE.out hG.out
            rw [HL.out] at hk2
            have BR := bto B5 hb.out
            rcases hs with hs | ⟨b0, o0, rfl⟩
            · omega
            obtain ⟨x, hx⟩ : ∃ x, x = tA l k := ⟨_, rfl⟩
            obtain ⟨p1, hp1⟩ : ∃ p, p = oA o l (k + 1) := ⟨_, rfl⟩
            have hcs : b0 < B ∧ w.cell? ⟨b0, o0 + k * 2, none⟩ = some (.int .i64 x) ∧ w.cell? ⟨b0, o0 + k * 2 + 1, none⟩ = some (.int .i64 p1) := by
              rcases HV.out with h | ⟨b1, o1, e1, h1, h2⟩
              · rw [HL.out] at h; omega
              · cases e1
                have h3 := h2 k (by rw [HL.out]; omega)
                exact ⟨h1, by rw [hx]; exact h3.1, by rw [hp1, oA_succ (by rw [HL.out]; omega)]; exact h3.2⟩
            obtain ⟨hbB, c0, c1⟩ := hcs
            replace c0 := (BR.cell (p := ⟨b0, o0 + k * 2, none⟩) (show b0 < w.heap.size by omega)).trans c0
            replace c1 := (BR.cell (p := ⟨b0, o0 + k * 2 + 1, none⟩) (show b0 < w.heap.size by omega)).trans c1
            have hb0 := Hzv.out.off k (by rw [HL.out]; omega)
            have hb1 := Hzv.out.off (k + 1) (by rw [HL.out]; omega)
            rw [← hp0.out] at hb0
            rw [← hp1] at hb1
            have HGp := hide (show gapB o l loc k = (decide (loc - 60000 * p1 < x) && decide (x ≤ loc - 60000 * p0)) by unfold gapB iA; rw [hp0.out, hp1, hx])
            have H0 := hide (show loc - 60000 * p0 = iA o l loc k by unfold iA; rw [hp0.out])
            have H1 := hide (show loc - 60000 * p1 = iA o l loc (k + 1) by unfold iA; rw [hp1])
            have HP1 := hide hp1
            have ok0 : S8.ok ⟨y, mo, d, h, mi, s, ms, p0⟩ = true := by unfold S8.ok; rw [Hv.out, Hcv.out, offB_iff.2 hb0]; rfl
            have ok1 : S8.ok ⟨y, mo, d, h, mi, s, ms, p1⟩ = true := by unfold S8.ok; rw [Hv.out, Hcv.out, offB_iff.2 hb1]; rfl
            have in0 : S8.ins ⟨y, mo, d, h, mi, s, ms, p0⟩ = loc - 60000 * p0 := by unfold S8.ins S8.loc; rw [Hloc.out]; rfl
            have in1 : S8.ins ⟨y, mo, d, h, mi, s, ms, p1⟩ = loc - 60000 * p1 := by unfold S8.ins S8.loc; rw [Hloc.out]; rfl
            have Ok0 := hide ok0
            have Ok1 := hide ok1
            have In0 := hide in0
            have In1 := hide in1
            have YR := hide ((Y5.out.below hb.out Y5.out.lt).alloc (.cells #[.int .i64 x, .int .i64 p1] 68))
            have ZR := hide ((Z5.out.below hb.out Z5.out.lt).alloc (.cells #[.int .i64 x, .int .i64 p1] 68))
            have TR := hide (Blk.new wr 68 #[.int .i64 x, .int .i64 p1])
            have BT := bal BR (.cells #[.int .i64 x, .int .i64 p1] 68)
            have y0 := YR.out.cell 0
            have y1 := YR.out.cell 1
            have y2 := YR.out.cell 2
            have z0 := ZR.out.cell 0
            have z1 := ZR.out.cell 1
            have z2 := ZR.out.cell 2
            have z3 := ZR.out.cell 3
            have hyl := (Y5.out.below hb.out Y5.out.lt).lt
            have hzl := (Z5.out.below hb.out Z5.out.lt).lt
            have n1 : b0 < wr.heap.size := by have := BR.size; omega
            simp at y0 y1 y2 z0 z1 z2 z3
            clear hx hp1 ok0 ok1 in0 in1
            go_wp2_with fail
            refine (instantOf_any ⟨y, mo, d, h, mi, s, ms, p1⟩ _ (HM.out.below BT) Ok1.out).mono ?_
            rintro e w7 ⟨rfl, hb7⟩
            rw [In1.out]
            have BU := bto BT hb7
            have YU := hide (YR.out.below hb7 YR.out.lt)
            have ZU := hide (ZR.out.below hb7 ZR.out.lt)
            have TU := hide (TR.out.below hb7 TR.out.lt)
            clear y0 y1 y2 z0 z1 z2 z3 c0 c1 YR ZR TR BT hyl hzl
            have y0 := YU.out.cell 0
            have y1 := YU.out.cell 1
            have y2 := YU.out.cell 2
            have z0 := ZU.out.cell 0
            have z1 := ZU.out.cell 1
            have z2 := ZU.out.cell 2
            have z3 := ZU.out.cell 3
            have hzl := ZU.out.lt
            simp at y0 y1 y2 z0 z1 z2 z3
            go_wp2_with fail
            refine (instantOf_any ⟨y, mo, d, h, mi, s, ms, p0⟩ _ (HM.out.below BU) Ok0.out).mono ?_
            rintro e w8 ⟨rfl, hb8⟩
            rw [In0.out]
            have BV := bto BU hb8
            have HBV := hide (bto (bto (bal hb.out (.cells #[.int .i64 x, .int .i64 p1] 68)) hb7) hb8)
            have TV := hide (TU.out.below hb8 TU.out.lt)
            clear y0 y1 y2 z0 z1 z2 z3 YU ZU TU hb7 hb8 BU
            have t0 := TV.out.cell 0
            have t1 := TV.out.cell 1
            simp at t0 t1
            by_cases hc1 : loc - 60000 * p1 < x
            · have g1 : decide (loc - 60000 * p1 < x) = true := decide_eq_true hc1
              by_cases hc0 : x ≤ loc - 60000 * p0
              · have g2 : decide (x ≤ loc - 60000 * p0) = true := decide_eq_true hc0
                have HGt := hide (show gapB o l loc k = true by rw [HGp.out, g1, g2]; rfl)
                have hP2 := hide (pick_gap HE.out HGt.out hG.out)
                clear hc1 hc0 HGp
                cases later with
                | true =>
                  go_wp2
                  go_returns
                  exact ⟨by rw [HF.out, hP2.out.1, ← H0.out]; rfl, BV⟩
                | false =>
                  go_wp2
                  go_returns
                  exact ⟨by rw [HF.out, hP2.out.2, ← H1.out]; rfl, BV⟩
              · have g2 : decide (x ≤ loc - 60000 * p0) = false := decide_eq_false hc0
                have HGf := hide (show gapB o l loc k = false by rw [HGp.out, g2]; simp)
                clear hc1 hc0 HGp
                go_wp2
                go_roundw
                case rel => exact ⟨k + 1, p1, by omega, by go_num, rfl, HP1, hide (upto hG.out HGf.out), HBV⟩
                case measure => simp [intOf]; omega
            · have g1 : decide (loc - 60000 * p1 < x) = false := decide_eq_false hc1
              have HGf := hide (show gapB o l loc k = false by rw [HGp.out, g1]; rfl)
              clear hc1 HGp
              go_wp2
              go_roundw
              case rel => exact ⟨k + 1, p1, by omega, by go_num, rfl, HP1, hide (upto hG.out HGf.out), HBV⟩
              case measure => simp [intOf]; omega
        · have hn0 : 0 < n := by omega
          have HP2 := hide (pick_one (o := o) (l := l) (loc := loc) (by rw [← HN.out]; exact hn0))
          have g0 : decide ((0 : Int) < (n : Int)) = true := by simp; omega
          have c0 := ho.cellAt 0 (by omega)
          have c1 := ho.cellAt (n - 1) (by omega)
          rw [flatI_get _ 0 (by rw [← HN.out]; omega)] at c0
          rw [flatI_get _ (n - 1) (by rw [← HN.out]; omega)] at c1
          have hn6 : n ≤ l.length + 1 := by rw [HN.out]; exact insS_len _ _ _ _
          have hl6 := (zv_of hz).len
          have e1 : IntKind.i64.wrap ((n : Int) - 1) = (n : Int) - 1 := IntWalk.i64_in _ (by omega)
          have e2 : ((n : Int) - 1).toNat = n - 1 := by omega
          have e3 : (0 : Int) ≤ (n : Int) - 1 := by omega
          have e4 : (n : Int) - 1 < (n : Int) := by omega
          have e5 : (0 : Int) < (n : Int) := by omega
          clear ho h0
          cases later with
          | true =>
            go_wp2
            go_returns
            exact ⟨by rw [HF.out, HP2.out.1, ← HN.out]; rfl, B5⟩
          | false =>
            go_wp2
            go_returns
            exact ⟨by rw [HF.out, HP2.out.2]; rfl, B5⟩
end
end Go.Proofs.YtjdlffkbhaieaaaDoor
