/- Contracts: the date of a day (the program's). -/
import Derived.Test.YtdflacnegkgljaaDoorDt2
import Derived.Deep.LoopGhost
namespace Go.Proofs.YtdflacnegkgljaaDoor
open Go.RowKit

set_option maxHeartbeats 2000000 in
theorem impl_dateAt (n : Int) (w : World) (hM : MD w) (h0 : 0 ≤ n) (h1 : n ≤ 3652058) :
    Calls Tryd.prog 67 #[.int .i64 n] w fun e w' => e = .returned (.agg #[.int .i64 (yOf n), .int .i64 (mOf n), .int .i64 (dOf n)]) ∧ Below w.heap.size w w' := by
  obtain ⟨g1, g2, g3⟩ := guess n h0 h1
  go_enter Tryd.func67, Tryd.ntmps67
  go_wp2_with fail
  go_loop [3] (fun t => ∃ y : Int, 1 ≤ y ∧ y ≤ 9999 ∧ nyr y ≤ n ∧ t = .int .i64 y) (fun t => (9999 - intOf t).toNat)
  case atStart => exact ⟨_, g1, g2, g3, rfl⟩
  case round =>
    obtain ⟨y, hy1, hy2, hy3, rfl⟩ := hrel
    by_cases hc : y < 9999 ∧ nyr (y + 1) ≤ n
    · obtain ⟨hlt, hd⟩ := hc
      go_wp2_with (go_at_call 59; refine (newYear_any _ _ (by omega) (by omega)).mono ?_; rintro e w' ⟨rfl, rfl⟩)
      go_round
      case rel => exact ⟨y + 1, by omega, by omega, hd, rfl⟩
      case measure => simp [intOf]; omega
    · have hz : n < nyr (y + 1) := by
        by_cases e : y = 9999
        · rw [e]; show _ < nyr 10000; rw [nyr_10000]; omega
        · omega
      have hyb := nyr_bd y hy1
      have hys := hide (nyr_succ y hy1)
      have hl := lp_01 y
      clear hc
      by_cases hlt : y < 9999
      all_goals
        go_wp2_with (go_at_call 59; refine (newYear_any _ _ (by omega) (by omega)).mono ?_; rintro e w' ⟨rfl, rfl⟩)
        go_loopg [] 11 (fun k wr => ∃ (m : Int) (j : Nat), 1 ≤ m ∧ m + k = 12 ∧ 0 ≤ n - nyr y - cum y m ∧ wr = ((w.alloc (.cells #[.int .i64 0, .int .i64 0, .int .i64 0] 25)).alloc (.cells #[.int .i64 y, .int .i64 m, .int .i64 (n - nyr y - cum y m + 1)] 25)).drewN j)
        case atStart => exact ⟨1, 0, by omega, by omega, by rw [cum_1]; omega, by rw [cum_1]; simp [World.drewN_zero]⟩
        case round =>
          obtain ⟨m, j, hm1, hm2, hm3, rfl⟩ := hrel
          have hM' := (((hM.alloc (.cells #[.int .i64 0, .int .i64 0, .int .i64 0] 25)).alloc (.cells #[.int .i64 y, .int .i64 m, .int .i64 (n - nyr y - cum y m + 1)] 25)))
          have hm12 : m ≤ 12 := by omega
          have hcb := cum_bd y m hm1 (by omega)
          have hmd := hide (mds_in hy1 hy2 hm1 hm12)
          have hmb := mds_bd y m
          have hsc := hide (cum_succ y m hm1 hm12)
          have hdb := dim_bd y m
          by_cases hgt : mds y m < n - nyr y - cum y m + 1
          · have hm11 : m < 12 := by
              rw [hmd.out] at hgt
              have h13 := cum_13 y
              rcases (show m = 12 ∨ m < 12 by omega) with rfl | h
              · have := hsc.out
                have := hys.out
                simp at *
                omega
              · exact h
            have hev := hide (show n - nyr y - cum y m + 1 - mds y m = n - nyr y - cum y (m + 1) + 1 by rw [hsc.out, hmd.out]; omega)
            go_wp2
            go_quiet (first | (go_at_call 22; exact quiet_add_left (impl_mds _ _ _ (hM'.drewN _))))
            go_wp2
            go_region_with (first | (go_at_call 22; refine (impl_mds _ _ _ (by exact hM')).mono ?_; rintro e w' ⟨rfl, rfl⟩))
            all_goals
              go_wp2
              go_roundg (gk - 1)
              case measure => omega
              case rel =>
                refine ⟨m + 1, j + nq + 1, by omega, by omega, by rw [hsc.out]; rw [hmd.out] at hgt; omega, ?_⟩
                rw [setCell_drewN, setCell_drewN, hev.out]
                refine congrArg (World.drewN · _) ?_
                simp [go_sem]
          · go_wp2
            go_quiet (first | (go_at_call 22; exact quiet_add_left (impl_mds _ _ _ (hM'.drewN _))))
            go_wp2
            rw [hmd.out] at hgt
            have hv : vld y m (n - nyr y - cum y m + 1) = true := vld_iff.2 ⟨hy1, hy2, hm1, hm12, by omega, by omega⟩
            obtain ⟨e1, e2, e3⟩ := dateD_of hv (show num y m (n - nyr y - cum y m + 1) = n by unfold num; omega)
            go_returns
            exact ⟨by rw [e1, e2, e3], (by repeat' (first | (with_reducible exact Below.refl _ _) | (with_reducible assumption) | (with_reducible refine bal ?_ _) | (with_reducible refine bdrewN ?_ _) | (with_reducible refine bdrew ?_) | (with_reducible refine bset ?_ ?_ _) | (with_reducible refine brow ?_ ?_ _) | omega | (simp; done) | (simp; omega)))⟩
end Go.Proofs.YtdflacnegkgljaaDoor
