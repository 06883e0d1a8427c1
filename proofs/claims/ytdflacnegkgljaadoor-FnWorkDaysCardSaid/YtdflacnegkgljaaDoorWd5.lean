/- WorkDays: the reference. -/
import Derived.Test.YtdflacnegkgljaaDoorWd4
namespace Go.Proofs.YtdflacnegkgljaaDoor
open Go.RowKit Go.Conc
attribute [local go_sem] lt_cell
set_option maxRecDepth 100000 in
set_option maxHeartbeats 4000000 in
theorem spec_wd (ya ma da yb mb db : Int) (l : List D3) (len cap B : Nat) (A : Option Addr) (w : World) (hl : l.length = len) (hP : Drs B w A l) (hB : B ≤ w.heap.size) (hm : len ≤ 2305843009213693951) :
    Calls Tryd.prog 24 #[.agg #[.int .i64 ya, .int .i64 ma, .int .i64 da], .agg #[.int .i64 yb, .int .i64 mb, .int .i64 db], .slice A len cap] w fun e w' => e = .returned (.int .i64 (wdV (ya, ma, da) (yb, mb, db) l)) ∧ Below w.heap.size w w' := by
  have HL := hide hl
  have hB0 := bal (bal (Below.refl w.heap.size w) (.cells #[.int .i64 ya, .int .i64 ma, .int .i64 da] 25)) (.cells #[.int .i64 yb, .int .i64 mb, .int .i64 db] 25)
  obtain ⟨W, hW⟩ : ∃ W, W = ((w.alloc (.cells #[.int .i64 ya, .int .i64 ma, .int .i64 da] 25)).alloc (.cells #[.int .i64 yb, .int .i64 mb, .int .i64 db] 25)) := ⟨_, rfl⟩
  rw [← hW] at hB0
  have XA : Blk W w.heap.size 25 #[.int .i64 ya, .int .i64 ma, .int .i64 da] := by rw [hW]; exact (Blk.new w _ _).alloc _
  have XB : Blk W (w.heap.size + 1) 25 #[.int .i64 yb, .int .i64 mb, .int .i64 db] := by rw [hW]; exact Blk.newE (by simp)
  have HPW := hide (show Drs B W A l by rw [hW]; exact (hP.alloc hB _).alloc (by simp; omega) _)
  have hBW : B ≤ W.heap.size := Nat.le_trans hB hB0.size
  have HVH := fun (x : Lt W) => spec_hv l len cap B A x.w HL.out (HPW.out.below' x.h hBW) (by have hsx := x.h.size; omega) hm
  have HB0 := hide hB0
  have HW := hide hW
  have hsW := hB0.size
  have hla := XA.lt
  have hlb := XB.lt
  have a0 := XA.cell 0
  have a1 := XA.cell 1
  have a2 := XA.cell 2
  have b0 := XB.cell 0
  have b1 := XB.cell 1
  have b2 := XB.cell 2
  simp at a0 a1 a2 b0 b1 b2
  clear hW hl hP hB0
  cases h1 : vld ya ma da with
  | false =>
    have HV := hide (show wdV (ya, ma, da) (yb, mb, db) l = -1 by unfold wdV; rw [show vld3 (ya, ma, da) = false from h1]; rfl)
    go_enter Tryd.func24, Tryd.ntmps24
    go_upto_region 1 with fail
    rw [← HW.out]
    refine region_below (by kernel_rfl) (by kernel_rfl) ?_
    repeat (go_big_quiet_step ((first | (go_at_call 44; exact lt_call (spec_dateValid _ _ _ _)) | (go_at_call 48; exact lt_call (HVH _)) | (go_at_call 38; exact lt_same (l6In_any _ _ _ _)))))
    refine wpQuiet_nil ?_
    rintro wq ⟨⟨_, hq⟩, rfl⟩
    go_wp2_with fail
    go_ret
    exact ⟨by rw [HV.out]; rfl, HB0.out.trans (hq.mono HB0.out.size)⟩
  | true =>
  cases h2 : vld yb mb db with
  | false =>
    have HV := hide (show wdV (ya, ma, da) (yb, mb, db) l = -1 by unfold wdV; rw [show vld3 (ya, ma, da) = true from h1, show vld3 (yb, mb, db) = false from h2]; rfl)
    go_enter Tryd.func24, Tryd.ntmps24
    go_upto_region 1 with fail
    rw [← HW.out]
    refine region_below (by kernel_rfl) (by kernel_rfl) ?_
    repeat (go_big_quiet_step ((first | (go_at_call 44; exact lt_call (spec_dateValid _ _ _ _)) | (go_at_call 48; exact lt_call (HVH _)) | (go_at_call 38; exact lt_same (l6In_any _ _ _ _)))))
    refine wpQuiet_nil ?_
    rintro wq ⟨⟨_, hq⟩, rfl⟩
    go_wp2_with fail
    go_ret
    exact ⟨by rw [HV.out]; rfl, HB0.out.trans (hq.mono HB0.out.size)⟩
  | true =>
  cases h3 : hvB l with
  | false =>
    have HV := hide (show wdV (ya, ma, da) (yb, mb, db) l = -1 by unfold wdV; rw [show vld3 (ya, ma, da) = true from h1, show vld3 (yb, mb, db) = true from h2, h3]; rfl)
    go_enter Tryd.func24, Tryd.ntmps24
    go_upto_region 1 with fail
    rw [← HW.out]
    refine region_below (by kernel_rfl) (by kernel_rfl) ?_
    repeat (go_big_quiet_step ((first | (go_at_call 44; exact lt_call (spec_dateValid _ _ _ _)) | (go_at_call 48; exact lt_call (HVH _)) | (go_at_call 38; exact lt_same (l6In_any _ _ _ _)))))
    refine wpQuiet_nil ?_
    rintro wq ⟨⟨_, hq⟩, rfl⟩
    go_wp2_with fail
    go_ret
    exact ⟨by rw [HV.out]; rfl, HB0.out.trans (hq.mono HB0.out.size)⟩
  | true =>
  have NUM := fun (x : Lt W) (y m d : Int) (h : vld y m d = true) => (spec_dayNumber y m d x.w).mono fun _ _ hh => (dnum_yes h) ▸ hh
  have na := num_bd h1
  have nb := num_bd h2
  cases h4 : inB (num yb mb db - num ya ma da) 0 1000 with
  | false =>
    have HV := hide (show wdV (ya, ma, da) (yb, mb, db) l = -1 by unfold wdV; rw [show vld3 (ya, ma, da) = true from h1, show vld3 (yb, mb, db) = true from h2, h3, show inB (num3 (yb, mb, db) - num3 (ya, ma, da)) 0 1000 = false from h4]; rfl)
    go_enter Tryd.func24, Tryd.ntmps24
    go_upto_region 1 with fail
    rw [← HW.out]
    refine region_below (by kernel_rfl) (by kernel_rfl) ?_
    repeat (go_big_quiet_step ((first | (go_at_call 44; exact lt_call (spec_dateValid _ _ _ _)) | (go_at_call 48; exact lt_call (HVH _)) | (go_at_call 49; exact lt_call (NUM _ _ _ _ (by assumption))) | (go_at_call 38; exact lt_same (l6In_any _ _ _ _)))))
    refine wpQuiet_nil ?_
    rintro wq ⟨⟨_, hq⟩, rfl⟩
    go_wp2_with fail
    go_ret
    exact ⟨by rw [HV.out]; rfl, HB0.out.trans (hq.mono HB0.out.size)⟩
  | true =>
    obtain ⟨k1, k2⟩ := inB_iff.1 h4
    obtain ⟨K, hK⟩ : ∃ K : Nat, num yb mb db - num ya ma da = K := ⟨(num yb mb db - num ya ma da).toNat, by omega⟩
    have HV := hide (show wdV (ya, ma, da) (yb, mb, db) l = cnt (nums l) (num ya ma da) K by
      unfold wdV
      rw [show vld3 (ya, ma, da) = true from h1, show vld3 (yb, mb, db) = true from h2, h3, show inB (num3 (yb, mb, db) - num3 (ya, ma, da)) 0 1000 = true from h4]
      show ((cnt (nums l) (num ya ma da) (num yb mb db - num ya ma da).toNat : Nat) : Int) = _
      rw [hK, Int.toNat_natCast])
    have HK := hide hK
    clear hK
    go_enter Tryd.func24, Tryd.ntmps24
    go_upto_region 1 with fail
    rw [← HW.out]
    refine region_below (by kernel_rfl) (by kernel_rfl) ?_
    repeat (go_big_quiet_step ((first | (go_at_call 44; exact lt_call (spec_dateValid _ _ _ _)) | (go_at_call 48; exact lt_call (HVH _)) | (go_at_call 49; exact lt_call (NUM _ _ _ _ (by assumption))) | (go_at_call 38; exact lt_same (l6In_any _ _ _ _)))))
    refine wpQuiet_nil ?_
    rintro wq ⟨⟨_, hq⟩, rfl⟩
    have c0a := (hq.cell (p := ⟨w.heap.size, 0, none⟩) hla).trans a0
    have c1a := (hq.cell (p := ⟨w.heap.size, 1, none⟩) hla).trans a1
    have c2a := (hq.cell (p := ⟨w.heap.size, 2, none⟩) hla).trans a2
    go_wp2_with fail
    have HQ := hide (HB0.out.trans (hq.mono HB0.out.size))
    have hsq := hq.size
    have XA1 := hide (XA.below hq hla)
    have XB1 := hide (XB.below hq hlb)
    have HPQ := hide (HPW.out.below' hq hBW)
    have hB' : B ≤ wq.heap.size := by omega
    have HVL := hide (hvB_all h3)
    have hN : num yb mb db = num ya ma da + K := by have := HK.out; omega
    have hKb : K ≤ 1000 := by have := HK.out; omega
    have HD1 := hide (dnum_yes h1)
    have HD2 := hide ((dnum_yes h2).trans hN)
    have c0 := XA1.out.cell 0
    have c1 := XA1.out.cell 1
    have c2 := XA1.out.cell 2
    simp at c0 c1 c2
    clear HPW NUM HVH h1 h2 h3 h4 hq hla hlb XA XB hN a0 a1 a2 b0 b1 b2
    refine (spec_dayNumber ya ma da _).mono ?_
    rintro e w2 ⟨rfl, hb2⟩
    rw [HD1.out]
    have XB2 := hide (XB1.out.below hb2 XB1.out.lt)
    have HP2 := hide (HPQ.out.below' hb2 hB')
    have H2 := hide (HQ.out.trans (hb2.mono HQ.out.size))
    have hs2 := hb2.size
    generalize num ya ma da = a at *
    clear hb2 c0 c1 c2 XA1 XB1 HPQ
    go_wp2_with fail
    go_loopw [7, 8] (fun n d wr => ∃ k : Nat, k ≤ K ∧ d = .int .i64 (a + k) ∧ n = .int .i64 (cnt (nums l) a k) ∧ Below w2.heap.size w2 wr) (fun _ d _ => K - (intOf d - a).toNat)
    case atStart => exact ⟨0, by omega, by simp, rfl, Below.refl _ _⟩
    case round =>
      obtain ⟨k, hk, rfl, rfl, hbr⟩ := hrel
      have hsr := hbr.size
      have XB3 := hide (XB2.out.below hbr XB2.out.lt)
      have d0 := XB3.out.cell 0
      have d1 := XB3.out.cell 1
      have d2 := XB3.out.cell 2
      simp at d0 d1 d2
      have hcb := cnt_le (nums l) a k
      go_wp2_with fail
      refine (spec_dayNumber yb mb db _).mono ?_
      rintro e w3 ⟨rfl, hb3⟩
      rw [HD2.out]
      have hbr3 := bto hbr hb3
      have hsr3 := hbr3.size
      clear hb3 d0 d1 d2 XB3
      by_cases hlt : k < K
      · go_wp2_with fail
        refine (spec_works l (a + k) _ _ B _ _ (by omega) (by omega) HVL.out HL.out (HP2.out.below' hbr3 (by omega)) (by omega) hm).mono ?_
        rintro e w4 ⟨rfl, hb4⟩
        have hbr4 := bto hbr3 hb4
        cases hw : wkB (nums l) (a + k) with
        | true =>
          have HN := hide (cnt_yes hw)
          go_wp2_with fail
          go_roundw
          case rel => exact ⟨k + 1, by omega, by go_num, by rw [HN.out]; exact congrArg (Value.int .i64) (by omega), hbr4⟩
          case measure => simp [intOf]; omega
        | false =>
          have HN := hide (cnt_no hw)
          go_wp2_with fail
          go_roundw
          case rel => exact ⟨k + 1, by omega, by go_num, by rw [HN.out], hbr4⟩
          case measure => simp [intOf]; omega
      · obtain rfl : k = K := by omega
        go_wp2_with fail
        go_ret
        exact ⟨by rw [HV.out]; rfl, H2.out.trans (hbr3.mono H2.out.size)⟩
end Go.Proofs.YtdflacnegkgljaaDoor
