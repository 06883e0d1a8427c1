/- The law FnExactWorkDays returns true. -/
import Derived.Test.YtdflacnegkgljaaDoorWd5
import Derived.Test.YtdflacnegkgljaaDoorShellW
import Derived.Test.YtdflacnegkgljaaDoorShellI
import Derived.Test.YtdflacnegkgljaaDoorShellD
namespace Go.Proofs.YtdflacnegkgljaaDoor
open Go.RowKit

set_option maxRecDepth 100000 in
set_option maxHeartbeats 4000000 in
theorem w_FnExactWorkDays (w : World) (hM : MD w) (x : D3) (_hx : True) (y : D3) (_hy : True) (A : Option Addr) (len cap : Nat) (l : List D3) (hl : l.length = len) (hP : Drs w.heap.size w A l) (_hi : True) (hc : len ≤ cap) (hm : cap ≤ maxLen) :
    Calls Tryd.prog 8 #[.agg #[.int .i64 x.1, .int .i64 x.2.1, .int .i64 x.2.2], .agg #[.int .i64 y.1, .int .i64 y.2.1, .int .i64 y.2.2], .slice A len cap] w fun e w' => e = .returned (.bool true) ∧ Below w.heap.size w w' := by
  obtain ⟨ya, ma, da⟩ := x
  obtain ⟨yb, mb, db⟩ := y
  show Calls Tryd.prog 8 #[.agg #[.int .i64 ya, .int .i64 ma, .int .i64 da], .agg #[.int .i64 yb, .int .i64 mb, .int .i64 db], .slice A len cap] w fun e w' => e = .returned (.bool true) ∧ Below w.heap.size w w'
  subst hl
  unfold maxLen at hm
  have hB0 := bal (bal (Below.refl w.heap.size w) (.cells #[.int .i64 ya, .int .i64 ma, .int .i64 da] 36)) (.cells #[.int .i64 yb, .int .i64 mb, .int .i64 db] 36)
  by_cases hbig : (1048576 : Int) < l.length
  · go_enter Tryd.func8, Tryd.ntmps8
    go_wp2_with fail
    refine (szD_any l.length cap A _ _ (by omega) (by omega) (by omega)).mono ?_
    rintro e w1 ⟨rfl, rfl⟩
    rw [if_pos (by omega)]
    go_wp2_with fail
    go_ret
    exact ⟨rfl, hB0⟩
  obtain ⟨v, ev⟩ : ∃ v, v = wdV (ya, ma, da) (yb, mb, db) l := ⟨_, rfl⟩
  have EV := hide ev
  have g0 : (v != v) = false := by simp
  clear ev
  obtain ⟨W, hW⟩ : ∃ W, W = ((w.alloc (.cells #[.int .i64 ya, .int .i64 ma, .int .i64 da] 36)).alloc (.cells #[.int .i64 yb, .int .i64 mb, .int .i64 db] 36)) := ⟨_, rfl⟩
  rw [← hW] at hB0
  have XA : Blk W w.heap.size 36 #[.int .i64 ya, .int .i64 ma, .int .i64 da] := by rw [hW]; exact (Blk.new w _ _).alloc _
  have XB : Blk W (w.heap.size + 1) 36 #[.int .i64 yb, .int .i64 mb, .int .i64 db] := by rw [hW]; exact Blk.newE (by simp)
  have HP0 := hide (show Drs w.heap.size W A l from hP.below' hB0 (Nat.le_refl _))
  have hMW : MD W := hM.below hB0
  have HB0 := hide hB0
  have HW := hide hW
  have hsW := hB0.size
  have hWa := XA.lt
  have hWb := XB.lt
  have a0 := XA.cell 0
  have a1 := XA.cell 1
  have a2 := XA.cell 2
  have b0 := XB.cell 0
  have b1 := XB.cell 1
  have b2 := XB.cell 2
  simp at a0 a1 a2 b0 b1 b2
  have k0 := hide (⟨a0, a1, a2, b0, b1, b2⟩ : _ ∧ _ ∧ _ ∧ _ ∧ _ ∧ _)
  clear hW hP hB0 XA XB
  go_enter Tryd.func8, Tryd.ntmps8
  go_wp2_with fail
  refine (szD_any l.length cap A _ _ (by omega) (by omega) (by omega)).mono ?_
  rintro e w1 ⟨rfl, rfl⟩
  rw [if_neg (by omega)]
  go_upto_region 5 with fail
  rw [← HW.out]
  go_region_held3 (fun w' => w'.cell? ⟨w.heap.size, 0, none⟩ = some (.int .i64 ya) ∧ w'.cell? ⟨w.heap.size, 1, none⟩ = some (.int .i64 ma) ∧ w'.cell? ⟨w.heap.size, 2, none⟩ = some (.int .i64 da) ∧ w'.cell? ⟨w.heap.size + 1, 0, none⟩ = some (.int .i64 yb) ∧ w'.cell? ⟨w.heap.size + 1, 1, none⟩ = some (.int .i64 mb) ∧ w'.cell? ⟨w.heap.size + 1, 2, none⟩ = some (.int .i64 db)) (first | assumption | exact k4.out | exact k3.out | exact k2.out | exact k1.out | go_keep) (first | (go_at_call 25; (with_reducible refine (toDate_any ya ma da _).mono ?_); rintro e w1 ⟨rfl, hb1⟩; have H1 := undrew hb1; have k1 := hide (keep6 H1 hWa hWb k0.out)) | (go_at_call 25; (with_reducible refine (toDate_any yb mb db _).mono ?_); rintro e w2 ⟨rfl, hb2⟩; have H2 := bto H1 hb2; have k2 := hide (keep6 H2 hWa hWb k0.out)) | (go_at_call 26; refine (toDS_any l _ _ w.heap.size _ _ rfl (HP0.out.below' H2 hsW) (Nat.le_trans hsW H2.size) (by omega)).mono ?_; rintro e w3 ⟨g3, c3, rfl, ho3, hb3⟩; have H3 := bto H2 hb3; have k3 := hide (keep6 H3 hWa hWb k0.out); have T3 := Drs.own ho3) | (go_at_call 24; refine (spec_wd ya ma da yb mb db l _ _ w3.heap.size _ _ rfl T3 (Nat.le_refl _) (by omega)).mono ?_; rintro e w4 ⟨rfl, hb4⟩; have H4 := bto H3 hb4; have k4 := hide (keep6 H4 hWa hWb k0.out)))
  rw [← EV.out]
  have hs4 := H4.size
  have HP4 := hide (HP0.out.below' H4 hsW)
  have hM4 := hMW.below H4
  clear H1 H2 H3 k1 k2 k3 hb1 hb2 hb3 hb4 ho3 T3 HP0
  go_wp2_with fail
  refine (toDS_any l _ _ w.heap.size _ _ rfl HP4.out (by omega) (by omega)).mono ?_
  rintro e w5 ⟨g5, c5, rfl, ho5, hb5⟩
  have H5 := bto H4 hb5
  have hs5 := H5.size
  have HP5 := hide (HP4.out.below' hb5 (by omega))
  have hM5 := hM4.below hb5
  have k5 := hide (keep6 H5 hWa hWb k0.out)
  obtain ⟨a0, a1, a2, b0, b1, b2⟩ := k5.out
  have hVa : w.heap.size < w5.heap.size := by omega
  have hVb : w.heap.size + 1 < w5.heap.size := by omega
  have HO5 := hide ho5
  clear hb5 ho5 HP4 k4 a0 a1 a2 b0 b1 b2
  obtain ⟨a0, a1, a2, b0, b1, b2⟩ := k5.out
  go_upto_region 7 with fail
  go_region_held3 (fun w' => w'.cell? ⟨w.heap.size, 0, none⟩ = some (.int .i64 ya) ∧ w'.cell? ⟨w.heap.size, 1, none⟩ = some (.int .i64 ma) ∧ w'.cell? ⟨w.heap.size, 2, none⟩ = some (.int .i64 da) ∧ w'.cell? ⟨w.heap.size + 1, 0, none⟩ = some (.int .i64 yb) ∧ w'.cell? ⟨w.heap.size + 1, 1, none⟩ = some (.int .i64 mb) ∧ w'.cell? ⟨w.heap.size + 1, 2, none⟩ = some (.int .i64 db)) (first | assumption | exact k8.out | exact k7.out | exact k6.out | go_keep) (first | (go_at_call 25; (with_reducible refine (toDate_any ya ma da _).mono ?_); rintro e w6 ⟨rfl, hb6⟩; have H6 := undrew hb6; have k6 := hide (keep6 H6 hVa hVb k5.out)) | (go_at_call 25; (with_reducible refine (toDate_any yb mb db _).mono ?_); rintro e w7 ⟨rfl, hb7⟩; have H7 := bto H6 hb7; have k7 := hide (keep6 H7 hVa hVb k5.out)) | (go_at_call 27; refine (impl_wd ya ma da yb mb db l _ _ w7.heap.size _ _ (hM5.below H7) rfl (Drs.own (own_belowD HO5.out H7)) (Nat.le_refl _) (by omega)).mono ?_; rintro e w8 ⟨rfl, hb8⟩; have H8 := bto H7 hb8; have k8 := hide (keep6 H8 hVa hVb k5.out)))
  rw [← EV.out]
  have hs8 := H8.size
  have HO8 := hide (own_belowD HO5.out H8)
  have HP8 := hide (HP5.out.below' H8 (by omega))
  have H58 := hide (bto H5 H8)
  clear H6 H7 k6 k7 hb6 hb7 hb8 HO5 HP5
  go_wp2_with fail
  refine (toDS_any l _ _ w.heap.size _ _ rfl HP8.out (by omega) (by omega)).mono ?_
  rintro e w9 ⟨g9, c9, rfl, ho9, hb9⟩
  have HO9 := own_belowD HO8.out hb9
  have H9 := hide (bto H58.out hb9)
  go_wp2_with fail
  refine (eqDS_same l _ _ _ _ _ _ _ rfl (Drs.own HO9) (Drs.own ho9) (Nat.le_refl _) (by omega)).mono ?_
  rintro e w10 ⟨rfl, hb10⟩
  have H10 := hide (HB0.out.trans ((bto H9.out hb10).mono HB0.out.size))
  go_wp2_with fail
  go_ret
  exact ⟨rfl, H10.out⟩
end Go.Proofs.YtdflacnegkgljaaDoor
