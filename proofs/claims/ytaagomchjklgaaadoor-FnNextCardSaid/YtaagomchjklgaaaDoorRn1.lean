/- The next time of a repeat: plain; the reference's. -/
import Derived.Test.YtaagomchjklgaaaDoorRa3
import Derived.Test.YtaagomchjklgaaaDoorRtPl2
namespace Go.Proofs.YtaagomchjklgaaaDoor
open Go.RowKit

/-- The first time beyond an instant, from the k-th on, r rounds left. -/
def nxF (f : Nat → S8 × Bool) (ix : Int) : Nat → Nat → Int × Bool
  | _, 0 => (0, false)
  | k, r + 1 => if (f k).2 then (if ix < (f k).1.ins then ((k : Int), true) else nxF f ix (k + 1) r) else (0, false)
theorem nx_stop {f : Nat → S8 × Bool} {ix : Int} {k r : Nat} (h : (f k).2 = false) : nxF f ix k (r + 1) = (0, false) := by simp [nxF, h]
theorem nx_hit {f : Nat → S8 × Bool} {ix : Int} {k r : Nat} (h : (f k).2 = true) (h2 : ix < (f k).1.ins) : nxF f ix k (r + 1) = ((k : Int), true) := by simp [nxF, h, h2]
theorem nx_on {f : Nat → S8 × Bool} {ix : Int} {k r : Nat} (h : (f k).2 = true) (h2 : ¬ ix < (f k).1.ins) : nxF f ix k (r + 1) = nxF f ix (k + 1) r := by simp [nxF, h, h2]
/-- The first time that is later than a stamp. -/
noncomputable def rnP (x : S8) (p1 p2 p3 p4 p5 p6 t : Int) (u : S8) : Int × Bool := if rpB x p1 p2 p3 p4 p5 p6 t && u.ok then nxF (fun k => raP x p1 p2 p3 p4 p5 p6 t k) u.ins 0 (t.toNat + 1) else (0, false)
theorem raP_st {x : S8} {p1 p2 p3 p4 p5 p6 t k : Int} (h : rpB x p1 p2 p3 p4 p5 p6 t = true) (hk : 0 ≤ k ∧ k ≤ t) : raP x p1 p2 p3 p4 p5 p6 t k = stP x (k * p1) (k * p2) (k * p3) (k * p4) (k * p5) (k * p6) := by
  unfold raP
  rw [h, inB_true hk.1 hk.2]
  rfl
section
attribute [local go_sem] lt_cell
attribute [local go_sem ↓] loadR_eq
set_option maxRecDepth 100000 in
set_option maxHeartbeats 4000000 in
theorem spec_rn (y mo d h mi s ms o p1 p2 p3 p4 p5 p6 t : Int) (u : S8) (w : World) :
    Calls Tryd.prog 10 #[.agg #[.int .i64 y, .int .i64 mo, .int .i64 d, .int .i64 h, .int .i64 mi, .int .i64 s, .int .i64 ms, .int .i64 o, .int .i64 p1, .int .i64 p2, .int .i64 p3, .int .i64 p4, .int .i64 p5, .int .i64 p6, .int .i64 t], .agg u.v] w fun e w' => e = .returned (.tuple #[.int .i64 (rnP ⟨y, mo, d, h, mi, s, ms, o⟩ p1 p2 p3 p4 p5 p6 t u).1, .bool (rnP ⟨y, mo, d, h, mi, s, ms, o⟩ p1 p2 p3 p4 p5 p6 t u).2]) ∧ Below w.heap.size w w' := by
  obtain ⟨uy, umo, ud, uh, umi, us, ums, uo⟩ := u
  simp only [S8.v]
  have X0 := hide ((Blk.new w 40 #[.int .i64 y, .int .i64 mo, .int .i64 d, .int .i64 h, .int .i64 mi, .int .i64 s, .int .i64 ms, .int .i64 o, .int .i64 p1, .int .i64 p2, .int .i64 p3, .int .i64 p4, .int .i64 p5, .int .i64 p6, .int .i64 t]).alloc (.cells #[.int .i64 uy, .int .i64 umo, .int .i64 ud, .int .i64 uh, .int .i64 umi, .int .i64 us, .int .i64 ums, .int .i64 uo] 37))
  have U0 := hide (Blk.newE (W := w.alloc (.cells #[.int .i64 y, .int .i64 mo, .int .i64 d, .int .i64 h, .int .i64 mi, .int .i64 s, .int .i64 ms, .int .i64 o, .int .i64 p1, .int .i64 p2, .int .i64 p3, .int .i64 p4, .int .i64 p5, .int .i64 p6, .int .i64 t] 40)) (g := w.heap.size + 1) (t := 37) (cs := #[.int .i64 uy, .int .i64 umo, .int .i64 ud, .int .i64 uh, .int .i64 umi, .int .i64 us, .int .i64 ums, .int .i64 uo]) (by simp))
  have B0 := hide (bal (bal (Below.refl w.heap.size w) (.cells #[.int .i64 y, .int .i64 mo, .int .i64 d, .int .i64 h, .int .i64 mi, .int .i64 s, .int .i64 ms, .int .i64 o, .int .i64 p1, .int .i64 p2, .int .i64 p3, .int .i64 p4, .int .i64 p5, .int .i64 p6, .int .i64 t] 40)) (.cells #[.int .i64 uy, .int .i64 umo, .int .i64 ud, .int .i64 uh, .int .i64 umi, .int .i64 us, .int .i64 ums, .int .i64 uo] 37))
  have hV : ∀ W, Calls Tryd.prog 21 #[.agg #[.int .i64 y, .int .i64 mo, .int .i64 d, .int .i64 h, .int .i64 mi, .int .i64 s, .int .i64 ms, .int .i64 o, .int .i64 p1, .int .i64 p2, .int .i64 p3, .int .i64 p4, .int .i64 p5, .int .i64 p6, .int .i64 t]] W fun e w' => e = .returned (.bool (rpB ⟨y, mo, d, h, mi, s, ms, o⟩ p1 p2 p3 p4 p5 p6 t)) ∧ Below W.heap.size W w' := fun W => spec_rv y mo d h mi s ms o p1 p2 p3 p4 p5 p6 t W
  have hUv : ∀ W, Calls Tryd.prog 22 #[.agg #[.int .i64 uy, .int .i64 umo, .int .i64 ud, .int .i64 uh, .int .i64 umi, .int .i64 us, .int .i64 ums, .int .i64 uo]] W fun e w' => e = .returned (.bool (S8.ok ⟨uy, umo, ud, uh, umi, us, ums, uo⟩)) ∧ Below W.heap.size W w' := fun W => spec_sv ⟨uy, umo, ud, uh, umi, us, ums, uo⟩ W
  have hld0 := loadR_row X0.out
  go_enter Tryd.func10, Tryd.ntmps10
  go_wp2_with fail
  refine (hV _).mono ?_
  rintro e w1 ⟨rfl, hb1⟩
  have X1 := hide (X0.out.below hb1 X0.out.lt)
  have U1 := hide (U0.out.below hb1 U0.out.lt)
  have B1 := hide (bto B0.out hb1)
  clear X0 U0 B0 hb1 hld0 hV
  cases hv : rpB ⟨y, mo, d, h, mi, s, ms, o⟩ p1 p2 p3 p4 p5 p6 t with
  | false =>
    have HR := hide (show rnP ⟨y, mo, d, h, mi, s, ms, o⟩ p1 p2 p3 p4 p5 p6 t ⟨uy, umo, ud, uh, umi, us, ums, uo⟩ = (0, false) by unfold rnP; rw [hv]; rfl)
    clear hv
    go_wp2_with fail
    go_returns
    exact ⟨by rw [HR.out]; rfl, B1.out⟩
  | true =>
    have HV := hide hv
    clear hv
    obtain ⟨u0, u1, u2, u3, u4, u5, u6, u7⟩ := st8 U1.out
    go_wp2_with fail
    refine (hUv _).mono ?_
    rintro e w2 ⟨rfl, hb2⟩
    have X2 := hide (X1.out.below hb2 X1.out.lt)
    have U2 := hide (U1.out.below hb2 U1.out.lt)
    have B2 := hide (bto B1.out hb2)
    clear X1 U1 B1 hb2 hUv u0 u1 u2 u3 u4 u5 u6 u7
    cases hu : S8.ok ⟨uy, umo, ud, uh, umi, us, ums, uo⟩ with
    | false =>
      have HR := hide (show rnP ⟨y, mo, d, h, mi, s, ms, o⟩ p1 p2 p3 p4 p5 p6 t ⟨uy, umo, ud, uh, umi, us, ums, uo⟩ = (0, false) by unfold rnP; rw [hu]; simp)
      clear hu
      go_wp2_with fail
      go_returns
      exact ⟨by rw [HR.out]; rfl, B2.out⟩
    | true =>
      have HR := hide (show rnP ⟨y, mo, d, h, mi, s, ms, o⟩ p1 p2 p3 p4 p5 p6 t ⟨uy, umo, ud, uh, umi, us, ums, uo⟩ = nxF (fun k => raP ⟨y, mo, d, h, mi, s, ms, o⟩ p1 p2 p3 p4 p5 p6 t k) (S8.ins ⟨uy, umo, ud, uh, umi, us, ums, uo⟩) 0 (t.toNat + 1) by unfold rnP; rw [hu, HV.out]; rfl)
      have hIU : ∀ W, Calls Tryd.prog 24 #[.agg #[.int .i64 uy, .int .i64 umo, .int .i64 ud, .int .i64 uh, .int .i64 umi, .int .i64 us, .int .i64 ums, .int .i64 uo]] W fun e w' => e = .returned (.int .i64 (S8.ins ⟨uy, umo, ud, uh, umi, us, ums, uo⟩)) ∧ Below W.heap.size W w' := fun W => spec_l12i ⟨uy, umo, ud, uh, umi, us, ums, uo⟩ W hu
      have ht := (rpB_iff.1 HV.out).2.2.2.2
      obtain ⟨ix, eix⟩ : ∃ ix, S8.ins ⟨uy, umo, ud, uh, umi, us, ums, uo⟩ = ix := ⟨_, rfl⟩
      rw [eix] at HR hIU
      clear hu eix
      obtain ⟨T, eT⟩ : ∃ T : Nat, t = (T : Int) := ⟨t.toNat, by omega⟩
      have eT2 : t.toNat = T := by omega
      rw [eT2] at HR
      have hT99 : T ≤ 99 := by omega
      have hA : ∀ (k : Nat) W, k ≤ T → Calls Tryd.prog 23 #[.agg #[.int .i64 y, .int .i64 mo, .int .i64 d, .int .i64 h, .int .i64 mi, .int .i64 s, .int .i64 ms, .int .i64 o, .int .i64 p1, .int .i64 p2, .int .i64 p3, .int .i64 p4, .int .i64 p5, .int .i64 p6, .int .i64 t], .int .i64 k] W (RetS (raP ⟨y, mo, d, h, mi, s, ms, o⟩ p1 p2 p3 p4 p5 p6 t k) W) := fun k W hk => by
        rw [raP_st HV.out (show 0 ≤ (k : Int) ∧ (k : Int) ≤ t by omega)]
        exact spec_at y mo d h mi s ms o p1 p2 p3 p4 p5 p6 t k (k * p1) (k * p2) (k * p3) (k * p4) (k * p5) (k * p6) W rfl rfl rfl rfl rfl rfl (rp_in HV.out (show 0 ≤ (k : Int) ∧ (k : Int) ≤ t by omega)).2
      have HT := hide eT
      clear eT eT2 ht
      go_wp2_with fail
      go_loopw [6] (fun i wr => ∃ k : Nat, k ≤ T + 1 ∧ i = .int .i64 k ∧ Hid (Blk wr w.heap.size 40 #[.int .i64 y, .int .i64 mo, .int .i64 d, .int .i64 h, .int .i64 mi, .int .i64 s, .int .i64 ms, .int .i64 o, .int .i64 p1, .int .i64 p2, .int .i64 p3, .int .i64 p4, .int .i64 p5, .int .i64 p6, .int .i64 t]) ∧ Hid (Blk wr (w.heap.size + 1) 37 #[.int .i64 uy, .int .i64 umo, .int .i64 ud, .int .i64 uh, .int .i64 umi, .int .i64 us, .int .i64 ums, .int .i64 uo]) ∧ Hid (Below w.heap.size w wr) ∧ Hid (nxF (fun k => raP ⟨y, mo, d, h, mi, s, ms, o⟩ p1 p2 p3 p4 p5 p6 t k) ix 0 (T + 1) = nxF (fun k => raP ⟨y, mo, d, h, mi, s, ms, o⟩ p1 p2 p3 p4 p5 p6 t k) ix k (T + 1 - k))) (fun i _ => T + 1 - (intOf i).toNat)
      case atStart => exact ⟨0, by omega, rfl, X2, U2, B2, hide rfl⟩
      case round =>
        obtain ⟨k, hk, rfl, XR, UR, BR, HN⟩ := hrel
        clear X2 U2 B2
        have c14 : wr.cell? ⟨w.heap.size, 14, none⟩ = some (.int .i64 (T : Int)) := by have := XR.out.cell 14; simp at this; rw [HT.out] at this; exact this
        by_cases hkT : k = T + 1
        · subst hkT
          have HF := hide (show rnP ⟨y, mo, d, h, mi, s, ms, o⟩ p1 p2 p3 p4 p5 p6 t ⟨uy, umo, ud, uh, umi, us, ums, uo⟩ = (0, false) by rw [HR.out, HN.out, Nat.sub_self]; rfl)
          go_wp2_with fail
          go_returns
          exact ⟨by rw [HF.out]; rfl, BR.out⟩
        · have hkT2 : k ≤ T := by omega
          have hkI : (k : Int) ≤ (T : Int) := by omega
          have hld := loadR_row XR.out
          have eN : T + 1 - k = (T - k) + 1 := by omega
          rw [eN] at HN
          obtain ⟨⟨⟨Y, M, D, H, I, S, L, O⟩, okb⟩, hq⟩ : ∃ r, raP ⟨y, mo, d, h, mi, s, ms, o⟩ p1 p2 p3 p4 p5 p6 t k = r := ⟨_, rfl⟩
          have hAk : ∀ W, Calls Tryd.prog 23 #[.agg #[.int .i64 y, .int .i64 mo, .int .i64 d, .int .i64 h, .int .i64 mi, .int .i64 s, .int .i64 ms, .int .i64 o, .int .i64 p1, .int .i64 p2, .int .i64 p3, .int .i64 p4, .int .i64 p5, .int .i64 p6, .int .i64 t], .int .i64 k] W fun e w' => e = .returned (.tuple #[.agg #[.int .i64 Y, .int .i64 M, .int .i64 D, .int .i64 H, .int .i64 I, .int .i64 S, .int .i64 L, .int .i64 O], .bool okb]) ∧ Below W.heap.size W w' := fun W => by
            have q := hA k W hkT2
            rw [hq] at q
            exact q
          have HQ := hide hq
          clear hq hA
          go_wp2_with fail
          refine (hAk _).mono ?_
          rintro e w3 ⟨rfl, hb3⟩
          have B3 := hide (bal (bto BR.out hb3) (.cells #[.int .i64 Y, .int .i64 M, .int .i64 D, .int .i64 H, .int .i64 I, .int .i64 S, .int .i64 L, .int .i64 O] 37))
          have X3 := hide ((XR.out.below hb3 XR.out.lt).alloc (.cells #[.int .i64 Y, .int .i64 M, .int .i64 D, .int .i64 H, .int .i64 I, .int .i64 S, .int .i64 L, .int .i64 O] 37))
          have U3 := hide ((UR.out.below hb3 UR.out.lt).alloc (.cells #[.int .i64 Y, .int .i64 M, .int .i64 D, .int .i64 H, .int .i64 I, .int .i64 S, .int .i64 L, .int .i64 O] 37))
          have Y3 := hide (Blk.new w3 37 #[.int .i64 Y, .int .i64 M, .int .i64 D, .int .i64 H, .int .i64 I, .int .i64 S, .int .i64 L, .int .i64 O])
          have hl3 := (UR.out.below hb3 UR.out.lt).lt
          clear c14 hld XR UR BR hb3 hAk
          cases okb with
          | false =>
            have HF := hide (show rnP ⟨y, mo, d, h, mi, s, ms, o⟩ p1 p2 p3 p4 p5 p6 t ⟨uy, umo, ud, uh, umi, us, ums, uo⟩ = (0, false) by rw [HR.out, HN.out]; exact nx_stop (show (raP ⟨y, mo, d, h, mi, s, ms, o⟩ p1 p2 p3 p4 p5 p6 t k).2 = false by rw [HQ.out]))
            go_wp2_with fail
            go_returns
            exact ⟨by rw [HF.out]; rfl, B3.out⟩
          | true =>
            have hok := (raP_ok HQ.out).1
            have hIY : ∀ W, Calls Tryd.prog 24 #[.agg #[.int .i64 Y, .int .i64 M, .int .i64 D, .int .i64 H, .int .i64 I, .int .i64 S, .int .i64 L, .int .i64 O]] W fun e w' => e = .returned (.int .i64 (S8.ins ⟨Y, M, D, H, I, S, L, O⟩)) ∧ Below W.heap.size W w' := fun W => spec_l12i ⟨Y, M, D, H, I, S, L, O⟩ W hok
            obtain ⟨na, ena⟩ : ∃ na, S8.ins ⟨Y, M, D, H, I, S, L, O⟩ = na := ⟨_, rfl⟩
            rw [ena] at hIY
            have HNA := hide ena
            clear ena hok
            go_wp2_with fail
            generalize w3.alloc (.cells #[.int .i64 Y, .int .i64 M, .int .i64 D, .int .i64 H, .int .i64 I, .int .i64 S, .int .i64 L, .int .i64 O] 37) = w4 at *
            generalize w3.heap.size = gY at *
            obtain ⟨u0, u1, u2, u3, u4, u5, u6, u7⟩ := st8 U3.out
            obtain ⟨y0, y1, y2, y3, y4, y5, y6, y7⟩ := st8 Y3.out
            have l1 := U3.out.lt
            have l2 := Y3.out.lt
            have l1' := Nat.le_of_lt l1
            have l2' := Nat.le_of_lt l2
            refine region_below (by kernel_rfl) (by kernel_rfl) ?_
            repeat (go_big_quiet_step ((first | (go_at_call_of 24 Y; exact lt_call (hIY _)) | (go_at_call_of 24 uy; exact lt_call (hIU _)))))
            refine wpQuiet_nil ?_
            rintro wq ⟨⟨_, hq⟩, rfl⟩
            have XQ := hide (X3.out.below hq X3.out.lt)
            have UQ := hide (U3.out.below hq U3.out.lt)
            have BQ := hide (bto B3.out hq)
            clear u0 u1 u2 u3 u4 u5 u6 u7 y0 y1 y2 y3 y4 y5 y6 y7 X3 U3 B3 Y3 hq
            by_cases hg : ix < na
            · have HF := hide (show rnP ⟨y, mo, d, h, mi, s, ms, o⟩ p1 p2 p3 p4 p5 p6 t ⟨uy, umo, ud, uh, umi, us, ums, uo⟩ = ((k : Int), true) by rw [HR.out, HN.out]; exact nx_hit (show (raP ⟨y, mo, d, h, mi, s, ms, o⟩ p1 p2 p3 p4 p5 p6 t k).2 = true by rw [HQ.out]) (show ix < (raP ⟨y, mo, d, h, mi, s, ms, o⟩ p1 p2 p3 p4 p5 p6 t k).1.ins by rw [HQ.out, HNA.out]; exact hg))
              go_wp2_with fail
              go_returns
              exact ⟨by rw [HF.out]; rfl, BQ.out⟩
            · have HN2 := hide (show nxF (fun k => raP ⟨y, mo, d, h, mi, s, ms, o⟩ p1 p2 p3 p4 p5 p6 t k) ix 0 (T + 1) = nxF (fun k => raP ⟨y, mo, d, h, mi, s, ms, o⟩ p1 p2 p3 p4 p5 p6 t k) ix (k + 1) (T + 1 - (k + 1)) by rw [HN.out, show T + 1 - (k + 1) = T - k by omega]; exact nx_on (show (raP ⟨y, mo, d, h, mi, s, ms, o⟩ p1 p2 p3 p4 p5 p6 t k).2 = true by rw [HQ.out]) (show ¬ ix < (raP ⟨y, mo, d, h, mi, s, ms, o⟩ p1 p2 p3 p4 p5 p6 t k).1.ins by rw [HQ.out, HNA.out]; exact hg))
              go_wp2_with fail
              go_roundw
              case rel => exact ⟨k + 1, by omega, by simp, XQ, UQ, BQ, HN2⟩
              case measure => simp [intOf]; omega
end
end Go.Proofs.YtaagomchjklgaaaDoor
