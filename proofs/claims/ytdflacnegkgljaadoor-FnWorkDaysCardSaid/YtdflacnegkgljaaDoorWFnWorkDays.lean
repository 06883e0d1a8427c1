/- The law FnWorkDays returns true. -/
import Derived.Test.YtdflacnegkgljaaDoorWFnWorkDaysFew
import Derived.Test.YtdflacnegkgljaaDoorWFnWorkPlus
namespace Go.Proofs.YtdflacnegkgljaaDoor
open Go.RowKit
attribute [local go_sem] lt_cell

theorem mod_in (k : Nat) {n : Int} (h : 0 ≤ n) : (k : Int).tmod (n + 1) = (k : Int) % (n + 1) ∧ 0 ≤ (k : Int) % (n + 1) ∧ (k : Int) % (n + 1) ≤ n := by
  have h2 := Int.emod_lt_of_pos (k : Int) (show 0 < n + 1 by omega)
  exact ⟨Int.tmod_eq_emod_of_nonneg (by omega), Int.emod_nonneg _ (by omega), by omega⟩
theorem wd_sum {ya ma da yb mb db : Int} {l : List D3} (h1 : vld ya ma da = true) (h2 : vld yb mb db = true) (h3 : hvB l = true) {K : Int} (h4 : 0 ≤ K) (h5 : num ya ma da + K ≤ num yb mb db) (h6 : num yb mb db - num ya ma da ≤ 1000) :
    0 ≤ wdV (ya, ma, da) (yOf (num ya ma da + K), mOf (num ya ma da + K), dOf (num ya ma da + K)) l ∧ wdV (ya, ma, da) (yOf (num ya ma da + K), mOf (num ya ma da + K), dOf (num ya ma da + K)) l ≤ 1000 ∧ 0 ≤ wdV (yOf (num ya ma da + K), mOf (num ya ma da + K), dOf (num ya ma da + K)) (yb, mb, db) l ∧ wdV (yOf (num ya ma da + K), mOf (num ya ma da + K), dOf (num ya ma da + K)) (yb, mb, db) l ≤ 1000 ∧
    wdV (ya, ma, da) (yOf (num ya ma da + K), mOf (num ya ma da + K), dOf (num ya ma da + K)) l + wdV (yOf (num ya ma da + K), mOf (num ya ma da + K), dOf (num ya ma da + K)) (yb, mb, db) l = wdV (ya, ma, da) (yb, mb, db) l := by
  have ba := num_bd h1
  have bb := num_bd h2
  have hd := dateD_in (n := num ya ma da + K) (by omega) (by omega)
  obtain ⟨j, rfl⟩ := Int.eq_ofNat_of_zero_le h4
  obtain ⟨k, hk⟩ : ∃ k : Nat, num yb mb db - (num ya ma da + j) = k := ⟨(num yb mb db - (num ya ma da + j)).toNat, by omega⟩
  have e1 := wdV_mk (x := (ya, ma, da)) (y := (yOf (num ya ma da + j), mOf (num ya ma da + j), dOf (num ya ma da + j))) (l := l) (k := j) h1 hd.1 h3 (by show num (yOf (num ya ma da + j)) (mOf (num ya ma da + j)) (dOf (num ya ma da + j)) - num ya ma da = _; rw [hd.2]; omega) (by omega)
  have e2 := wdV_mk (x := (yOf (num ya ma da + j), mOf (num ya ma da + j), dOf (num ya ma da + j))) (y := (yb, mb, db)) (l := l) (k := k) hd.1 h2 h3 (by show num yb mb db - num (yOf (num ya ma da + j)) (mOf (num ya ma da + j)) (dOf (num ya ma da + j)) = _; rw [hd.2]; exact hk) (by omega)
  have e3 := wdV_mk (x := (ya, ma, da)) (y := (yb, mb, db)) (l := l) (k := j + k) h1 h2 h3 (by show num yb mb db - num ya ma da = _; omega) (by omega)
  rw [e1, e2, e3, cnt_add]
  have l1 := cnt_le (nums l) (num3 (ya, ma, da)) j
  have l2 := cnt_le (nums l) (num3 (yOf (num ya ma da + j), mOf (num ya ma da + j), dOf (num ya ma da + j))) k
  have e4 : num3 (yOf (num ya ma da + j), mOf (num ya ma da + j), dOf (num ya ma da + j)) = num3 (ya, ma, da) + j := hd.2
  rw [e4] at l2 ⊢
  omega

set_option maxRecDepth 100000 in
set_option maxHeartbeats 2000000 in
theorem w_FnWorkDays (w : World) (hM : MD w) (A : Option Addr) (len cap : Nat) (hs : Src w.heap.size w A len) (hc : len ≤ cap) (hm : cap ≤ maxLen) (A1 : Option Addr) (len1 cap1' : Nat) (_hs1 : Src w.heap.size w A1 len1) (_hc1 : len1 ≤ cap1') (_hm1 : cap1' ≤ maxLen) :
    Calls Tryd.prog 12 #[.slice A len cap, .slice A1 len1 cap1'] w fun e w' => e = .returned (.bool true) ∧ Below w.heap.size w w' := by
  have hm' := hm
  unfold maxLen at hm'
  by_cases hbig : 1048576 < len
  · go_enter Tryd.func12, Tryd.ntmps12
    go_wp2_with fail
    go_ret
    exact ⟨rfl, Below.refl _ _⟩
  by_cases hbig1 : 1048576 < len1
  · go_enter Tryd.func12, Tryd.ntmps12
    go_wp2_with fail
    go_ret
    exact ⟨rfl, Below.refl _ _⟩
  · go_enter Tryd.func12, Tryd.ntmps12
    go_wp2_with fail
    refine (drawWD hs (Nat.le_refl _) hc hm).mono ?_
    rintro e w1 ⟨ya, ma, da, yb, mb, db, b, cap1, l, rfl, ho1, hl6, hb1⟩
    obtain ⟨W, hW⟩ : ∃ W, W = ((w1.alloc (.cells #[.int .i64 ya, .int .i64 ma, .int .i64 da] 25)).alloc (.cells #[.int .i64 yb, .int .i64 mb, .int .i64 db] 25)) := ⟨_, rfl⟩
    have BW : Below w1.heap.size w1 W := by rw [hW]; exact bal (bal (Below.refl _ _) _) _
    have XA : Blk W w1.heap.size 25 #[.int .i64 ya, .int .i64 ma, .int .i64 da] := by rw [hW]; exact (Blk.new w1 _ _).alloc _
    have XB : Blk W (w1.heap.size + 1) 25 #[.int .i64 yb, .int .i64 mb, .int .i64 db] := by rw [hW]; exact Blk.newE (by simp)
    have HOW := hide (own_belowD ho1 BW)
    have hMW := (hM.below hb1).below BW
    have HB := hide (bto hb1 BW)
    obtain ⟨v, ev⟩ : ∃ v, v = wdV (ya, ma, da) (yb, mb, db) l := ⟨_, rfl⟩
    have EV := hide ev
    have g0 : (v != v) = false := by simp
    have HW := hide hW
    have hla := XA.lt
    have hlb := XB.lt
    obtain ⟨a0, a1, a2⟩ := XA.cs3
    obtain ⟨b0, b1, b2⟩ := XB.cs3
    have k0 := hide (⟨a0, a1, a2, b0, b1, b2⟩ : _ ∧ _ ∧ _ ∧ _ ∧ _ ∧ _)
    have HXA := hide XA
    have HXB := hide XB
    clear ho1 hb1 BW hW ev XA XB hs hc hm hm'
    go_upto_region 4 with fail
    rw [← HW.out]
    clear HW
    go_wp2_with fail
    refine (impl_wd ya ma da yb mb db l _ _ W.heap.size _ _ hMW rfl (Drs.own HOW.out) (Nat.le_refl _) (by omega)).mono ?_
    rintro e w3 ⟨rfl, hb3⟩
    rw [← EV.out]
    have k3 := hide (keep6 hb3 hla hlb k0.out)
    have hs3 := hb3.size
    have H3 := hide hb3
    clear a0 a1 a2 b0 b1 b2 hb3
    obtain ⟨a0, a1, a2, b0, b1, b2⟩ := k3.out
    go_wp2_with fail
    refine (spec_wd ya ma da yb mb db l _ _ W.heap.size _ _ rfl ((Drs.own HOW.out).below H3.out) (by omega) (by omega)).mono ?_
    rintro e w4 ⟨rfl, hb4⟩
    rw [← EV.out]
    have H4 := hide (bto H3.out hb4)
    have hs4 := H4.out.size
    have HF := hide (HB.out.trans ((bto H3.out hb4).mono HB.out.size))
    clear hb4 k3 H3 a0 a1 a2 b0 b1 b2
    by_cases hv : v < 0
    · go_wp2_with fail
      go_ret
      exact ⟨rfl, HF.out⟩
    · obtain ⟨q1, q2, q3, q4, q5, q6⟩ := wdV_in (EV.out ▸ hv)
      have hba := num_bd (y := ya) (m := ma) (d := da) q1
      have hbb := num_bd (y := yb) (m := mb) (d := db) q2
      have hDA : ∀ W, MD W → Calls Tryd.prog 32 #[.agg #[.int .i64 ya, .int .i64 ma, .int .i64 da]] W fun e w' => e = .returned (.int .i64 (num ya ma da)) ∧ Below W.heap.size W w' := fun W hM => by
        have k := impl_dayNumber ya ma da W hM
        rw [dnum_yes q1] at k
        exact k
      have hDB : ∀ W, MD W → Calls Tryd.prog 32 #[.agg #[.int .i64 yb, .int .i64 mb, .int .i64 db]] W fun e w' => e = .returned (.int .i64 (num yb mb db)) ∧ Below W.heap.size W w' := fun W hM => by
        have k := impl_dayNumber yb mb db W hM
        rw [dnum_yes q2] at k
        exact k
      have hM4 := hMW.below H4.out
      have k4 := keep6 H4.out hla hlb k0.out
      simp only [num3] at q4 q5
      have hDP : ∀ K, 0 ≤ K → num ya ma da + K ≤ 3652058 → ∀ W, MD W → Calls Tryd.prog 34 #[.agg #[.int .i64 ya, .int .i64 ma, .int .i64 da], .int .i64 K] W fun e w' => e = .returned (.tuple #[.agg #[.int .i64 (yOf (num ya ma da + K)), .int .i64 (mOf (num ya ma da + K)), .int .i64 (dOf (num ya ma da + K))], .bool true]) ∧ Below W.heap.size W w' := fun K h0 h1 W hM => impl_dp_yes ya ma da K W hM q1 h0 h1
      have HS := hide (fun (K : Int) (h4 : 0 ≤ K) (h5 : num ya ma da + K ≤ num yb mb db) => wd_sum (l := l) q1 q2 q3 h4 h5 q5)
      generalize hNA : num ya ma da = NA at *
      generalize hNB : num yb mb db = NB at *
      have hwr : IntKind.i64.wrap (NB - NA) = NB - NA := IntWalk.i64_in _ (by omega)
      obtain ⟨e1, e2, e3⟩ := mod_in len1 q4
      obtain ⟨K, hK⟩ : ∃ K, K = (len1 : Int) % (NB - NA + 1) := ⟨_, rfl⟩
      rw [← hK] at e1 e2 e3
      have hK2 := hK.symm
      have hDPK := hDP K e2 (by omega)
      obtain ⟨s1, s2, s3, s4, s5⟩ := HS.out K e2 (by omega)
      rw [← EV.out] at s5
      have H4b := H4.out
      have hla4 : w1.heap.size < w4.heap.size := by omega
      have hlb4 : w1.heap.size + 1 < w4.heap.size := by omega
      have hPW := hide (Drs.own HOW.out)
      have HNE := hide (And.intro hNA hNB)
      clear q1 q2 q3 q6 EV hDP hNA hNB HS HOW hK hK2
      obtain ⟨a0, a1, a2, b0, b1, b2⟩ := k4
      have k5 := hide (⟨a0, a1, a2, b0, b1, b2⟩ : _ ∧ _ ∧ _ ∧ _ ∧ _ ∧ _)
      have n1 : w1.heap.size < w4.heap.size := by omega
      have n2 : w1.heap.size + 1 < w4.heap.size := by omega
      have n3 : w1.heap.size ≤ w4.heap.size := by omega
      have n4 : w1.heap.size + 1 ≤ w4.heap.size := by omega
      go_wp2_with fail
      refine region_below (by kernel_rfl) (by kernel_rfl) ?_
      repeat (go_big_quiet_step ((first | (go_at_call_of 32 ya; exact lt_call (hDA _ (MD.below hM4 (Lt.h _)))) | (go_at_call_of 32 yb; exact lt_call (hDB _ (MD.below hM4 (Lt.h _)))))))
      refine wpQuiet_nil ?_
      rintro wq ⟨⟨_, hq⟩, rfl⟩
      have XQ := (HXA.out.below H4.out hla).below hq hla4
      have YQ := (HXB.out.below H4.out hlb).below hq hlb4
      have hsq := hq.size
      have HBQ := hide (HF.out.trans (hq.mono HF.out.size))
      have hMQ := hM4.below hq
      have HPQ := hide ((hPW.out.below H4.out).below' hq (by omega))
      have lxa := XQ.lt
      have lxb := YQ.lt
      clear a0 a1 a2 b0 b1 b2 hDA hDB k5 hq H4b
      have w1e : IntKind.i64.wrap (NB - NA + 1) = NB - NA + 1 := IntWalk.i64_in _ (by omega)
      have w2e : IntKind.i64.wrap K = K := IntWalk.i64_in _ (by omega)
      have w3e : (NB - NA + 1 == 0) = false := by
        simp
        omega
      have w4e : ¬ NB - NA + 1 = 0 := by omega
      go_upto_region 9 with fail
      go_cut [11, 12] from 50 to 59 (fun t11 t12 wx => ∃ dB : Nat, t11 = .pointer (some ⟨dB, 0, none⟩) ∧ t12 = .bool true ∧ Hid (Blk wx dB 25 #[.int .i64 (yOf (NA + K)), .int .i64 (mOf (NA + K)), .int .i64 (dOf (NA + K))]) ∧ Hid (Below wq.heap.size wq wx))
      case first =>
        go_region_held3 (fun w' => w'.cell? ⟨w1.heap.size, 0, none⟩ = some (.int .i64 ya) ∧ w'.cell? ⟨w1.heap.size, 1, none⟩ = some (.int .i64 ma) ∧ w'.cell? ⟨w1.heap.size, 2, none⟩ = some (.int .i64 da)) (first | (with_reducible exact XQ.drew.cs3) | (with_reducible exact (XQ.alloc _).drew.cs3) | (with_reducible exact XD.cs3) | (with_reducible exact (XD.alloc _).cs3) | (with_reducible exact (XD.far3 (by omega) _ _ _).cs3)) ((go_at_call 34; (first | ((with_reducible refine (hDPK wq.drew (hMQ.below (bdrew (Below.refl _ _)))).mono ?_); rintro e wd ⟨rfl, hbd⟩; have XD := XQ.drew.below hbd lxa; have BD := bto (bdrew (Below.refl wq.heap.size wq)) hbd; have lxd := XD.lt; have DD := True.intro) | ((with_reducible refine (hDPK (wq.alloc (.cells #[.int .i64 0, .int .i64 0, .int .i64 0] 25)).drew (hMQ.below (bdrew (bal (Below.refl _ _) _)))).mono ?_); rintro e wd ⟨rfl, hbd⟩; have XD := (XQ.alloc (.cells #[.int .i64 0, .int .i64 0, .int .i64 0] 25)).drew.below hbd (XQ.alloc (.cells #[.int .i64 0, .int .i64 0, .int .i64 0] 25)).lt; have BD := bto (bdrew (bal (Below.refl wq.heap.size wq) (.cells #[.int .i64 0, .int .i64 0, .int .i64 0] 25))) hbd; have lxd := XD.lt; have DD := hide ((Blk.drew (Blk.newE (W := wq) (g := wq.heap.size) (t := 25) (cs := #[.int .i64 0, .int .i64 0, .int .i64 0]) rfl)).below hbd (by simp)); have ldd := DD.out.lt; obtain ⟨e0', e1', e2'⟩ := DD.out.cs3; obtain ⟨g0', g1', g2'⟩ := DD.out.fs3))))
        all_goals
          rename_i hS
          clear hS
          go_wp2_with fail
          go_meet
          first
          | exact ⟨wq.heap.size, rfl, rfl, hide (DD.out.set3 _ _ _), hide (bset (bset (bset BD (p := ⟨wq.heap.size, 0, none⟩) (Nat.le_refl _) _) (p := ⟨wq.heap.size, 1, none⟩) (Nat.le_refl _) _) (p := ⟨wq.heap.size, 2, none⟩) (Nat.le_refl _) _)⟩
          | exact ⟨wd.heap.size, rfl, rfl, hide (Blk.new wd 25 #[.int .i64 (yOf (NA + K)), .int .i64 (mOf (NA + K)), .int .i64 (dOf (NA + K))]), hide (bal BD _)⟩
      case rest =>
        obtain ⟨dB, rfl, rfl, DX, BX⟩ := hcut
        have XC := XQ.below BX.out lxa
        have YC := YQ.below BX.out lxb
        have hMC := hMQ.below BX.out
        have hsc := BX.out.size
        have HPC := hide (HPQ.out.below' BX.out (by omega))
        have HF9 := hide (HBQ.out.trans (BX.out.mono HBQ.out.size))
        have m1 := XC.lt
        have m2 := YC.lt
        have m3 := DX.out.lt
        generalize yOf (NA + K) = x1 at *
        generalize mOf (NA + K) = x2 at *
        generalize dOf (NA + K) = x3 at *
        have hWA : ∀ x : Lt wc, Calls Tryd.prog 27 #[.agg #[.int .i64 ya, .int .i64 ma, .int .i64 da], .agg #[.int .i64 x1, .int .i64 x2, .int .i64 x3], .slice (some ⟨b, 0, none⟩) l.length cap1] x.w fun e w' => e = .returned (.int .i64 (wdV (ya, ma, da) (x1, x2, x3) l)) ∧ Below x.w.heap.size x.w w' := fun x =>
          have hx := x.h.size
          impl_wd ya ma da x1 x2 x3 l l.length cap1 W.heap.size _ x.w (hMC.below x.h) rfl (HPC.out.below' x.h (by omega)) (by omega) (by omega)
        have hWB : ∀ x : Lt wc, Calls Tryd.prog 27 #[.agg #[.int .i64 x1, .int .i64 x2, .int .i64 x3], .agg #[.int .i64 yb, .int .i64 mb, .int .i64 db], .slice (some ⟨b, 0, none⟩) l.length cap1] x.w fun e w' => e = .returned (.int .i64 (wdV (x1, x2, x3) (yb, mb, db) l)) ∧ Below x.w.heap.size x.w w' := fun x =>
          have hx := x.h.size
          impl_wd x1 x2 x3 yb mb db l l.length cap1 W.heap.size _ x.w (hMC.below x.h) rfl (HPC.out.below' x.h (by omega)) (by omega) (by omega)
        generalize wdV (ya, ma, da) (x1, x2, x3) l = v1 at *
        generalize wdV (x1, x2, x3) (yb, mb, db) l = v2 at *
        have hsum : IntKind.i64.wrap (v1 + v2) = v := by rw [IntWalk.i64_in _ (by omega), s5]
        have m4 : w1.heap.size ≤ wc.heap.size := by omega
        have m5 : w1.heap.size + 1 ≤ wc.heap.size := by omega
        have m6 : dB ≤ wc.heap.size := by omega
        obtain ⟨a0, a1, a2⟩ := XC.cs3
        obtain ⟨b0, b1, b2⟩ := YC.cs3
        obtain ⟨c0, c1, c2⟩ := DX.out.cs3
        clear XC YC DX BX HPC hMC hDPK HXA HXB w1e w2e w3e w4e e1 e2 e3 XQ YQ HBQ hMQ HPQ hPW hM4 H4 hMW HB s1 s2 s3 s4 s5 hsc
        go_wp2_with fail
        refine region_below (by kernel_rfl) (by kernel_rfl) ?_
        repeat (go_big_quiet_step ((first | (go_at_call_of 27 ya; exact lt_call (hWA _)) | (go_at_call_of 27 yb; exact lt_call (hWB _)))))
        refine wpQuiet_nil ?_
        rintro wr ⟨⟨_, hr⟩, rfl⟩
        have HG := hide (HF9.out.trans (hr.mono HF9.out.size))
        clear a0 a1 a2 b0 b1 b2 c0 c1 c2 hWA hWB
        go_wp2_with fail
        go_ret
        exact ⟨rfl, HG.out⟩
end Go.Proofs.YtdflacnegkgljaaDoor
