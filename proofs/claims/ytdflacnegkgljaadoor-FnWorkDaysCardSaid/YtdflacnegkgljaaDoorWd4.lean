/- WorkDays: the program's and the reference's. -/
import Derived.Test.YtdflacnegkgljaaDoorWd3
namespace Go.Proofs.YtdflacnegkgljaaDoor
open Go.RowKit Go.Conc
attribute [local go_sem] lt_cell

/-- What WorkDays hands back. -/
def wdV (x y : D3) (l : List D3) : Int := if vld3 x && (vld3 y && (hvB l && inB (num3 y - num3 x) 0 1000)) then cnt (nums l) (num3 x) (num3 y - num3 x).toNat else -1
theorem hvB_all {l : List D3} (h : hvB l = true) : l.all vld3 = true := by
  unfold hvB at h
  simp only [Bool.and_eq_true] at h
  exact h.2
theorem keep6 {W w' : World} {g g' : Nat} {a b c d e f : Value} (hb : Below W.heap.size W w') (hg : g < W.heap.size) (hg' : g' < W.heap.size)
    (h : W.cell? ⟨g, 0, none⟩ = some a ∧ W.cell? ⟨g, 1, none⟩ = some b ∧ W.cell? ⟨g, 2, none⟩ = some c ∧ W.cell? ⟨g', 0, none⟩ = some d ∧ W.cell? ⟨g', 1, none⟩ = some e ∧ W.cell? ⟨g', 2, none⟩ = some f) :
    w'.cell? ⟨g, 0, none⟩ = some a ∧ w'.cell? ⟨g, 1, none⟩ = some b ∧ w'.cell? ⟨g, 2, none⟩ = some c ∧ w'.cell? ⟨g', 0, none⟩ = some d ∧ w'.cell? ⟨g', 1, none⟩ = some e ∧ w'.cell? ⟨g', 2, none⟩ = some f :=
  ⟨(hb.cell (p := ⟨g, 0, none⟩) hg).trans h.1, (hb.cell (p := ⟨g, 1, none⟩) hg).trans h.2.1, (hb.cell (p := ⟨g, 2, none⟩) hg).trans h.2.2.1,
    (hb.cell (p := ⟨g', 0, none⟩) hg').trans h.2.2.2.1, (hb.cell (p := ⟨g', 1, none⟩) hg').trans h.2.2.2.2.1, (hb.cell (p := ⟨g', 2, none⟩) hg').trans h.2.2.2.2.2⟩
theorem undrew {w w' : World} (h : Below w.drew.heap.size w.drew w') : Below w.heap.size w w' := ⟨h.os, h.tape, h.output, h.size, h.block⟩
theorem hvB_len {l : List D3} (h : hvB l = true) : l.length ≤ 10 := by
  unfold hvB at h
  simp only [Bool.and_eq_true, decide_eq_true_eq] at h
  exact h.1
set_option maxRecDepth 100000 in
set_option maxHeartbeats 4000000 in
theorem impl_wd (ya ma da yb mb db : Int) (l : List D3) (len cap B : Nat) (A : Option Addr) (w : World) (hM : MD w) (hl : l.length = len) (hP : Drs B w A l) (hB : B ≤ w.heap.size) (hm : len ≤ 2305843009213693951) :
    Calls Tryd.prog 27 #[.agg #[.int .i64 ya, .int .i64 ma, .int .i64 da], .agg #[.int .i64 yb, .int .i64 mb, .int .i64 db], .slice A len cap] w fun e w' => e = .returned (.int .i64 (wdV (ya, ma, da) (yb, mb, db) l)) ∧ Below w.heap.size w w' := by
  have HL := hide hl
  have hB0 := bal (bal (Below.refl w.heap.size w) (.cells #[.int .i64 ya, .int .i64 ma, .int .i64 da] 25)) (.cells #[.int .i64 yb, .int .i64 mb, .int .i64 db] 25)
  obtain ⟨W, hW⟩ : ∃ W, W = ((w.alloc (.cells #[.int .i64 ya, .int .i64 ma, .int .i64 da] 25)).alloc (.cells #[.int .i64 yb, .int .i64 mb, .int .i64 db] 25)) := ⟨_, rfl⟩
  rw [← hW] at hB0
  have XA : Blk W w.heap.size 25 #[.int .i64 ya, .int .i64 ma, .int .i64 da] := by rw [hW]; exact (Blk.new w _ _).alloc _
  have XB : Blk W (w.heap.size + 1) 25 #[.int .i64 yb, .int .i64 mb, .int .i64 db] := by rw [hW]; exact Blk.newE (by simp)
  have HPW := hide (show Drs B W A l by rw [hW]; exact (hP.alloc hB _).alloc (by simp; omega) _)
  have hMW : MD W := by rw [hW]; exact (hM.alloc _).alloc _
  have hBW : B ≤ W.heap.size := Nat.le_trans hB hB0.size
  have HVH := fun (x : Lt W) => impl_hv l len cap B A x.w (hMW.below x.h) HL.out (HPW.out.below' x.h hBW) (by have hsx := x.h.size; omega) hm
  have HB0 := hide hB0
  have HW := hide hW
  have hsW := hB0.size
  have hla := XA.lt
  have hlb := XB.lt
  have a0 := XA.cell 0
  have a1 := XA.cell 1
  have a2 := XA.cell 2
  have b0 := XB.cell 0
  have b1 := XB.cell 1
  have b2 := XB.cell 2
  simp at a0 a1 a2 b0 b1 b2
  clear hW hl hP hB0
  cases h1 : vld ya ma da with
  | false =>
    have HV := hide (show wdV (ya, ma, da) (yb, mb, db) l = -1 by unfold wdV; rw [show vld3 (ya, ma, da) = false from h1]; rfl)
    go_enter Tryd.func27, Tryd.ntmps27
    go_upto_region 1 with fail
    rw [← HW.out]
    refine region_below (by kernel_rfl) (by kernel_rfl) ?_
    repeat (go_big_quiet_step ((first | (go_at_call 39; exact lt_call (impl_dateValid _ _ _ _ (hMW.below (Lt.h _)))) | (go_at_call 51; exact lt_call (HVH _)) | (go_at_call 37; exact lt_same (within_any _ _ _ _)))))
    refine wpQuiet_nil ?_
    rintro wq ⟨⟨_, hq⟩, rfl⟩
    go_wp2_with fail
    go_ret
    exact ⟨by rw [HV.out]; rfl, HB0.out.trans (hq.mono HB0.out.size)⟩
  | true =>
  cases h2 : vld yb mb db with
  | false =>
    have HV := hide (show wdV (ya, ma, da) (yb, mb, db) l = -1 by unfold wdV; rw [show vld3 (ya, ma, da) = true from h1, show vld3 (yb, mb, db) = false from h2]; rfl)
    go_enter Tryd.func27, Tryd.ntmps27
    go_upto_region 1 with fail
    rw [← HW.out]
    refine region_below (by kernel_rfl) (by kernel_rfl) ?_
    repeat (go_big_quiet_step ((first | (go_at_call 39; exact lt_call (impl_dateValid _ _ _ _ (hMW.below (Lt.h _)))) | (go_at_call 51; exact lt_call (HVH _)) | (go_at_call 37; exact lt_same (within_any _ _ _ _)))))
    refine wpQuiet_nil ?_
    rintro wq ⟨⟨_, hq⟩, rfl⟩
    go_wp2_with fail
    go_ret
    exact ⟨by rw [HV.out]; rfl, HB0.out.trans (hq.mono HB0.out.size)⟩
  | true =>
  cases h3 : hvB l with
  | false =>
    have HV := hide (show wdV (ya, ma, da) (yb, mb, db) l = -1 by unfold wdV; rw [show vld3 (ya, ma, da) = true from h1, show vld3 (yb, mb, db) = true from h2, h3]; rfl)
    go_enter Tryd.func27, Tryd.ntmps27
    go_upto_region 1 with fail
    rw [← HW.out]
    refine region_below (by kernel_rfl) (by kernel_rfl) ?_
    repeat (go_big_quiet_step ((first | (go_at_call 39; exact lt_call (impl_dateValid _ _ _ _ (hMW.below (Lt.h _)))) | (go_at_call 51; exact lt_call (HVH _)) | (go_at_call 37; exact lt_same (within_any _ _ _ _)))))
    refine wpQuiet_nil ?_
    rintro wq ⟨⟨_, hq⟩, rfl⟩
    go_wp2_with fail
    go_ret
    exact ⟨by rw [HV.out]; rfl, HB0.out.trans (hq.mono HB0.out.size)⟩
  | true =>
  have NUM := fun (x : Lt W) (y m d : Int) (h : vld y m d = true) => impl_number y m d x.w (hMW.below x.h) h
  have na := num_bd h1
  have nb := num_bd h2
  cases h4 : inB (num yb mb db - num ya ma da) 0 1000 with
  | false =>
    have HV := hide (show wdV (ya, ma, da) (yb, mb, db) l = -1 by unfold wdV; rw [show vld3 (ya, ma, da) = true from h1, show vld3 (yb, mb, db) = true from h2, h3, show inB (num3 (yb, mb, db) - num3 (ya, ma, da)) 0 1000 = false from h4]; rfl)
    go_enter Tryd.func27, Tryd.ntmps27
    go_upto_region 1 with fail
    rw [← HW.out]
    refine region_below (by kernel_rfl) (by kernel_rfl) ?_
    repeat (go_big_quiet_step ((first | (go_at_call 39; exact lt_call (impl_dateValid _ _ _ _ (hMW.below (Lt.h _)))) | (go_at_call 51; exact lt_call (HVH _)) | (go_at_call 41; exact lt_call (NUM _ _ _ _ (by assumption))) | (go_at_call 37; exact lt_same (within_any _ _ _ _)))))
    refine wpQuiet_nil ?_
    rintro wq ⟨⟨_, hq⟩, rfl⟩
    go_wp2_with fail
    go_ret
    exact ⟨by rw [HV.out]; rfl, HB0.out.trans (hq.mono HB0.out.size)⟩
  | true =>
    obtain ⟨k1, k2⟩ := inB_iff.1 h4
    obtain ⟨K, hK⟩ : ∃ K : Nat, num yb mb db - num ya ma da = K := ⟨(num yb mb db - num ya ma da).toNat, by omega⟩
    have HV := hide (show wdV (ya, ma, da) (yb, mb, db) l = cnt (nums l) (num ya ma da) K by
      unfold wdV
      rw [show vld3 (ya, ma, da) = true from h1, show vld3 (yb, mb, db) = true from h2, h3, show inB (num3 (yb, mb, db) - num3 (ya, ma, da)) 0 1000 = true from h4]
      show ((cnt (nums l) (num ya ma da) (num yb mb db - num ya ma da).toNat : Nat) : Int) = _
      rw [hK, Int.toNat_natCast])
    have HK := hide hK
    clear hK
    go_enter Tryd.func27, Tryd.ntmps27
    go_upto_region 1 with fail
    rw [← HW.out]
    refine region_below (by kernel_rfl) (by kernel_rfl) ?_
    repeat (go_big_quiet_step ((first | (go_at_call 39; exact lt_call (impl_dateValid _ _ _ _ (hMW.below (Lt.h _)))) | (go_at_call 51; exact lt_call (HVH _)) | (go_at_call 41; exact lt_call (NUM _ _ _ _ (by assumption))) | (go_at_call 37; exact lt_same (within_any _ _ _ _)))))
    refine wpQuiet_nil ?_
    rintro wq ⟨⟨_, hq⟩, rfl⟩
    go_wp2_with fail
    have HQ := hide (HB0.out.trans (hq.mono HB0.out.size))
    have hsq := hq.size
    replace a0 := (hq.cell (p := ⟨w.heap.size, 0, none⟩) hla).trans a0
    replace a1 := (hq.cell (p := ⟨w.heap.size, 1, none⟩) hla).trans a1
    replace a2 := (hq.cell (p := ⟨w.heap.size, 2, none⟩) hla).trans a2
    replace b0 := (hq.cell (p := ⟨w.heap.size + 1, 0, none⟩) hlb).trans b0
    replace b1 := (hq.cell (p := ⟨w.heap.size + 1, 1, none⟩) hlb).trans b1
    replace b2 := (hq.cell (p := ⟨w.heap.size + 1, 2, none⟩) hlb).trans b2
    have hla' : w.heap.size < wq.heap.size := by omega
    have hlb' : w.heap.size + 1 < wq.heap.size := by omega
    have hMq := hMW.below hq
    have HPQ := hide (HPW.out.below' hq hBW)
    have hB' : B ≤ wq.heap.size := by omega
    have HVL := hide (hvB_all h3)
    have HV1 := hide h1
    have HV2 := hide h2
    have hN : num yb mb db = num ya ma da + K := by have := HK.out; omega
    clear HPW hMW NUM HVH h1 h2 h3 h4 hq hla hlb XA XB
    go_region_with
      (first | (go_at_call 41; (with_reducible refine (impl_number ya ma da _ hMq.drew HV1.out).mono ?_); rintro e w5 ⟨rfl, hb5⟩; have k5 := hide (keep6 hb5 hla' hlb' ⟨a0, a1, a2, b0, b1, b2⟩); obtain ⟨p0, p1, p2, p3, p4, p5⟩ := k5.out; have hM5 := hMq.drew.below hb5; have hs5 := hb5.size) | (go_at_call 41; (with_reducible refine (impl_number yb mb db _ hM5 HV2.out).mono ?_); rintro e w6 ⟨rfl, hb6⟩; have k6 := hide (keep6 hb6 (Nat.lt_of_lt_of_le hla' hs5) (Nat.lt_of_lt_of_le hlb' hs5) k5.out); have hM6 := hM5.below hb6; have hs6 := hb6.size; rw [hN]) | (go_at_call 52; refine (workDays_any _ K l _ _ B _ _ hM6 (by omega) (by omega) (by omega) HVL.out HL.out (((show Drs B wq.drew A l from HPQ.out).below' hb5 hB').below' hb6 (Nat.le_trans hB' hs5)) (Nat.le_trans hB' (Nat.le_trans hs5 hs6)) hm).mono ?_; rintro e w7 ⟨rfl, hch, hb7⟩; have hln := (fun ty => run_len_chan (P := Tryd.prog) 65 ty Tryd.underlying65 hch); have k7 := hide (keep6 hb7 (Nat.lt_of_lt_of_le hla' (Nat.le_trans hs5 hs6)) (Nat.lt_of_lt_of_le hlb' (Nat.le_trans hs5 hs6)) k6.out); have HB7 := hide (undrew (bto (bto hb5 hb6) hb7))))
    all_goals go_wp2_with fail
    all_goals go_ret
    all_goals exact ⟨by rw [HV.out, ← wkL_len]; simp [chB, Act.put], HQ.out.trans (HB7.out.mono HQ.out.size)⟩
end Go.Proofs.YtdflacnegkgljaaDoor
