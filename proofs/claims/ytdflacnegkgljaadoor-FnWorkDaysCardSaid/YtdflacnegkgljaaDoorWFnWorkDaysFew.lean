/- The law FnWorkDaysFew returns true. -/
import Derived.Test.YtdflacnegkgljaaDoorWd5
import Derived.Test.YtdflacnegkgljaaDoorDrW2
namespace Go.Proofs.YtdflacnegkgljaaDoor
open Go.RowKit
attribute [local go_sem] lt_cell

/-- What WorkDays hands back, where it is no failure. -/
theorem wdV_in {x y : D3} {l : List D3} (h : ¬ wdV x y l < 0) : vld3 x = true ∧ vld3 y = true ∧ hvB l = true ∧ 0 ≤ num3 y - num3 x ∧ num3 y - num3 x ≤ 1000 ∧ wdV x y l = cnt (nums l) (num3 x) (num3 y - num3 x).toNat := by
  unfold wdV at h ⊢
  split at h
  · rename_i hq
    rw [if_pos hq]
    simp only [Bool.and_eq_true, inB_iff] at hq
    exact ⟨hq.1, hq.2.1, hq.2.2.1, hq.2.2.2.1, hq.2.2.2.2, rfl⟩
  · exact absurd (by decide) h
theorem nums_len (l : List D3) : (nums l).length = l.length := by unfold nums; simp

set_option maxRecDepth 100000 in
set_option maxHeartbeats 2000000 in
theorem w_FnWorkDaysFew (w : World) (hM : MD w) (A : Option Addr) (len cap : Nat) (hs : Src w.heap.size w A len) (hc : len ≤ cap) (hm : cap ≤ maxLen) :
    Calls Tryd.prog 10 #[.slice A len cap] w fun e w' => e = .returned (.bool true) ∧ Below w.heap.size w w' := by
  have hm' := hm
  unfold maxLen at hm'
  by_cases hbig : 1048576 < len
  · go_enter Tryd.func10, Tryd.ntmps10
    go_wp2_with fail
    go_ret
    exact ⟨rfl, Below.refl _ _⟩
  · go_enter Tryd.func10, Tryd.ntmps10
    go_wp2_with fail
    refine (drawWD hs (Nat.le_refl _) hc hm).mono ?_
    rintro e w1 ⟨ya, ma, da, yb, mb, db, b, cap1, l, rfl, ho1, hl6, hb1⟩
    obtain ⟨W, hW⟩ : ∃ W, W = ((w1.alloc (.cells #[.int .i64 ya, .int .i64 ma, .int .i64 da] 25)).alloc (.cells #[.int .i64 yb, .int .i64 mb, .int .i64 db] 25)) := ⟨_, rfl⟩
    have BW : Below w1.heap.size w1 W := by rw [hW]; exact bal (bal (Below.refl _ _) _) _
    have XA : Blk W w1.heap.size 25 #[.int .i64 ya, .int .i64 ma, .int .i64 da] := by rw [hW]; exact (Blk.new w1 _ _).alloc _
    have XB : Blk W (w1.heap.size + 1) 25 #[.int .i64 yb, .int .i64 mb, .int .i64 db] := by rw [hW]; exact Blk.newE (by simp)
    have HOW := hide (own_belowD ho1 BW)
    have hMW := (hM.below hb1).below BW
    have HB := hide (bto hb1 BW)
    obtain ⟨v, ev⟩ : ∃ v, v = wdV (ya, ma, da) (yb, mb, db) l := ⟨_, rfl⟩
    have EV := hide ev
    have g0 : (v != v) = false := by simp
    have HW := hide hW
    have hla := XA.lt
    have hlb := XB.lt
    obtain ⟨a0, a1, a2⟩ := XA.cs3
    obtain ⟨b0, b1, b2⟩ := XB.cs3
    have k0 := hide (⟨a0, a1, a2, b0, b1, b2⟩ : _ ∧ _ ∧ _ ∧ _ ∧ _ ∧ _)
    clear ho1 hb1 BW hW ev XA XB hs hc hm hm'
    go_upto_region 4 with fail
    rw [← HW.out]
    clear HW
    go_wp2_with fail
    refine (impl_wd ya ma da yb mb db l _ _ W.heap.size _ _ hMW rfl (Drs.own HOW.out) (Nat.le_refl _) (by omega)).mono ?_
    rintro e w3 ⟨rfl, hb3⟩
    rw [← EV.out]
    have k3 := hide (keep6 hb3 hla hlb k0.out)
    have hs3 := hb3.size
    have H3 := hide hb3
    clear a0 a1 a2 b0 b1 b2 hb3
    obtain ⟨a0, a1, a2, b0, b1, b2⟩ := k3.out
    go_wp2_with fail
    refine (spec_wd ya ma da yb mb db l _ _ W.heap.size _ _ rfl ((Drs.own HOW.out).below H3.out) (by omega) (by omega)).mono ?_
    rintro e w4 ⟨rfl, hb4⟩
    rw [← EV.out]
    have H4 := hide (bto H3.out hb4)
    have hs4 := H4.out.size
    have HF := hide (HB.out.trans ((bto H3.out hb4).mono HB.out.size))
    clear hb4 k3 H3 a0 a1 a2 b0 b1 b2
    by_cases hv : v < 0
    · go_wp2_with fail
      go_ret
      exact ⟨rfl, HF.out⟩
    · obtain ⟨q1, q2, q3, q4, q5, q6⟩ := wdV_in (EV.out ▸ hv)
      have F1 := cnt_le (nums l) (num3 (ya, ma, da)) (num3 (yb, mb, db) - num3 (ya, ma, da)).toNat
      have F2 := cnt_few (nums l) (num3 (ya, ma, da)) (num3 (yb, mb, db) - num3 (ya, ma, da)).toNat
      rw [nums_len] at F2
      rw [← EV.out] at q6
      have hba := num_bd (y := ya) (m := ma) (d := da) q1
      have hbb := num_bd (y := yb) (m := mb) (d := db) q2
      have hDA : ∀ W, MD W → Calls Tryd.prog 32 #[.agg #[.int .i64 ya, .int .i64 ma, .int .i64 da]] W fun e w' => e = .returned (.int .i64 (num ya ma da)) ∧ Below W.heap.size W w' := fun W hM => by
        have k := impl_dayNumber ya ma da W hM
        rw [dnum_yes q1] at k
        exact k
      have hDB : ∀ W, MD W → Calls Tryd.prog 32 #[.agg #[.int .i64 yb, .int .i64 mb, .int .i64 db]] W fun e w' => e = .returned (.int .i64 (num yb mb db)) ∧ Below W.heap.size W w' := fun W hM => by
        have k := impl_dayNumber yb mb db W hM
        rw [dnum_yes q2] at k
        exact k
      have hM4 := hMW.below H4.out
      have k4 := keep6 H4.out hla hlb k0.out
      unfold num3 at q4 q5 q6 F1 F2
      simp only at q4 q5 q6 F1 F2
      generalize num ya ma da = NA at *
      generalize num yb mb db = NB at *
      have hwr : IntKind.i64.wrap (NB - NA) = NB - NA := IntWalk.i64_in _ (by omega)
      have r1 : v ≤ NB - NA := by omega
      have r2 : (NB - NA) / 7 * 5 - l.length ≤ v := by omega
      clear q1 q2 q3 q6 F1 F2 EV
      obtain ⟨a0, a1, a2, b0, b1, b2⟩ := k4
      have n1 : w1.heap.size < w4.heap.size := by omega
      have n2 : w1.heap.size + 1 < w4.heap.size := by omega
      have n3 : w1.heap.size ≤ w4.heap.size := by omega
      have n4 : w1.heap.size + 1 ≤ w4.heap.size := by omega
      go_wp2_with fail
      refine region_below (by kernel_rfl) (by kernel_rfl) ?_
      repeat (go_big_quiet_step ((first | (go_at_call_of 32 ya; exact lt_call (hDA _ (MD.below hM4 (Lt.h _)))) | (go_at_call_of 32 yb; exact lt_call (hDB _ (MD.below hM4 (Lt.h _)))))))
      refine wpQuiet_nil ?_
      rintro wq ⟨⟨_, hq⟩, rfl⟩
      have HQ := hide (HF.out.trans (hq.mono HF.out.size))
      clear a0 a1 a2 b0 b1 b2 hDA hDB
      go_wp2_with fail
      go_ret
      exact ⟨rfl, HQ.out⟩
end Go.Proofs.YtdflacnegkgljaaDoor
