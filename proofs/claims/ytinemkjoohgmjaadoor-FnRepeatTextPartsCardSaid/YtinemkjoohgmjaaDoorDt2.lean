/- Contracts: months, dates, numbers of days (the program's and the reference's). -/
import Derived.Test.YtinemkjoohgmjaaDoorDt
namespace Go.Proofs.YtinemkjoohgmjaaDoor
open Go.RowKit

theorem impl_mds (y m : Int) (w : World) (hM : MD w) :
    Calls Tryd.prog 79 #[.int .i64 y, .int .i64 m] w fun e w' => e = .returned (.int .i64 (mds y m)) ∧ w = w' := by
  by_cases hy : inB y 1 9999 = true
  · by_cases hm : inB m 1 12 = true
    · obtain ⟨h1, h2⟩ := inB_iff.1 hy
      obtain ⟨h3, h4⟩ := inB_iff.1 hm
      by_cases hl : m = 2 ∧ lp y = 1
      · obtain ⟨rfl, hl⟩ := hl
        have HF := hide (show mds y 2 = 29 by rw [mds_in h1 h2 h3 h4]; simp [dim, hl])
        have hlp : leapB y = true := by rw [leap_in h1 h2, hl]; rfl
        clear hl
        go_enter Tryd.func79, Tryd.ntmps79
        go_wp2_with (first | (go_at_call 93; refine (yearValid_any _ _).mono ?_; rintro e w' ⟨rfl, rfl⟩) | (go_at_call 58; refine (within_any _ _ _ _).mono ?_; rintro e w' ⟨rfl, rfl⟩) | (go_at_call 94; refine (impl_leap _ _).mono ?_; rintro e w' ⟨rfl, rfl⟩))
        go_ret
        exact ⟨by rw [HF.out]; rfl, rfl⟩
      · have HF := hide (mds_in h1 h2 h3 h4)
        have hc := fun i hi => hM i hi
        rcases months h3 h4 with rfl | rfl | rfl | rfl | rfl | rfl | rfl | rfl | rfl | rfl | rfl | rfl
        case inr.inl =>
          have hlp : leapB y = false := by
            rw [leap_in h1 h2]
            simpa using hl
          have hd : lp y = 0 := by
            have := lp_01 y
            omega
          have hc2 := hM 1 (by omega)
          clear hl hM hc
          go_enter Tryd.func79, Tryd.ntmps79
          go_wp2_with (first | (go_at_call 93; refine (yearValid_any _ _).mono ?_; rintro e w' ⟨rfl, rfl⟩) | (go_at_call 58; refine (within_any _ _ _ _).mono ?_; rintro e w' ⟨rfl, rfl⟩) | (go_at_call 94; refine (impl_leap _ _).mono ?_; rintro e w' ⟨rfl, rfl⟩))
          go_ret
          exact ⟨by rw [HF.out]; simp [dim, hd, mtab], rfl⟩
        all_goals
          have hc0 := hM 0 (by omega)
          have hc2 := hM 2 (by omega)
          have hc3 := hM 3 (by omega)
          have hc4 := hM 4 (by omega)
          have hc5 := hM 5 (by omega)
          have hc6 := hM 6 (by omega)
          have hc7 := hM 7 (by omega)
          have hc8 := hM 8 (by omega)
          have hc9 := hM 9 (by omega)
          have hc10 := hM 10 (by omega)
          have hc11 := hM 11 (by omega)
          clear hl hM hc
          go_enter Tryd.func79, Tryd.ntmps79
          go_wp2_with (first | (go_at_call 93; refine (yearValid_any _ _).mono ?_; rintro e w' ⟨rfl, rfl⟩) | (go_at_call 58; refine (within_any _ _ _ _).mono ?_; rintro e w' ⟨rfl, rfl⟩) | (go_at_call 94; refine (impl_leap _ _).mono ?_; rintro e w' ⟨rfl, rfl⟩))
          go_ret
          exact ⟨by rw [HF.out]; simp [dim, mtab], rfl⟩
    · replace hm : inB m 1 12 = false := by simpa using hm
      have HF := hide (show mds y m = 0 by unfold mds; rw [hm]; simp)
      go_enter Tryd.func79, Tryd.ntmps79
      go_wp2_with (first | (go_at_call 93; refine (yearValid_any _ _).mono ?_; rintro e w' ⟨rfl, rfl⟩) | (go_at_call 58; refine (within_any _ _ _ _).mono ?_; rintro e w' ⟨rfl, rfl⟩) | (go_at_call 94; refine (impl_leap _ _).mono ?_; rintro e w' ⟨rfl, rfl⟩))
      go_ret
      exact ⟨by rw [HF.out]; rfl, rfl⟩
  · replace hy : inB y 1 9999 = false := by simpa using hy
    have HF := hide (show mds y m = 0 by unfold mds; rw [hy]; simp)
    go_enter Tryd.func79, Tryd.ntmps79
    go_wp2_with (first | (go_at_call 93; refine (yearValid_any _ _).mono ?_; rintro e w' ⟨rfl, rfl⟩) | (go_at_call 58; refine (within_any _ _ _ _).mono ?_; rintro e w' ⟨rfl, rfl⟩) | (go_at_call 94; refine (impl_leap _ _).mono ?_; rintro e w' ⟨rfl, rfl⟩))
    go_ret
    exact ⟨by rw [HF.out]; rfl, rfl⟩

theorem impl_dateValid (y m d : Int) (w : World) (hM : MD w) :
    Calls Tryd.prog 49 #[.agg #[.int .i64 y, .int .i64 m, .int .i64 d]] w fun e w' => e = .returned (.bool (vld y m d)) ∧ Below w.heap.size w w' := by
  go_enter Tryd.func49, Tryd.ntmps49
  go_wp2_with fail
  go_quiet (first | (go_at_call 79; exact quiet_left (impl_mds _ _ _ ((hM.alloc _).drewN _))) | (go_at_call 58; exact quiet_left (within_any _ _ _ _)))
  go_wp2
  go_ret
  exact ⟨rfl, bdrewN (bal (Below.refl _ _) _) _⟩

theorem newYear_any (y : Int) (w : World) (h1 : 1 ≤ y) (h2 : y ≤ 10000) :
    Calls Tryd.prog 102 #[.int .i64 y] w fun e w' => e = .returned (.int .i64 (nyr y)) ∧ w = w' := by
  go_enter Tryd.func102, Tryd.ntmps102
  go_wp2
  go_ret
  exact ⟨rfl, rfl⟩
theorem impl_ordinal (y m d : Int) (w : World) (hM : MD w) (hv : vld y m d = true) :
    Calls Tryd.prog 103 #[.agg #[.int .i64 y, .int .i64 m, .int .i64 d]] w fun e w' => e = .returned (.int .i64 (d + cum y m)) ∧ Below w.heap.size w w' := by
  obtain ⟨h1, h2, h3, h4, h5, h6⟩ := vld_iff.1 hv
  have hd := dim_bd y m
  clear hv
  go_enter Tryd.func103, Tryd.ntmps103
  go_wp2_with fail
  go_loopw [3, 4] (fun n k wr => ∃ i : Int, 1 ≤ i ∧ i ≤ m ∧ k = .int .i64 i ∧ n = .int .i64 (d + cum y i) ∧ ∃ j, wr = (w.alloc (.cells #[.int .i64 y, .int .i64 m, .int .i64 d] 24)).drewN j) (fun _ k _ => (13 - intOf k).toNat)
  case atStart => exact ⟨1, by omega, by omega, rfl, by rw [cum_1]; simp, 0, rfl⟩
  case round =>
    obtain ⟨i, hi1, hi2, rfl, rfl, j, rfl⟩ := hrel
    have hc := cum_bd y i hi1 (by omega)
    have hs := hide (cum_succ y i hi1 (by omega))
    have hm := mds_bd y i
    have he := hide (mds_in h1 h2 hi1 (show i ≤ 12 by omega))
    by_cases hlt : i < m
    · go_wp2_with (go_at_call 79; refine (impl_mds _ _ _ ((hM.alloc _).drewN _)).mono ?_; rintro e w' ⟨rfl, rfl⟩)
      go_roundw
      case rel => exact ⟨i + 1, by omega, by omega, by go_num, by rw [hs.out, ← he.out]; exact congrArg (Value.int .i64) (by omega), j, rfl⟩
      case measure => simp [intOf]; omega
    · obtain rfl : i = m := by omega
      go_wp2_with fail
      go_ret
      exact ⟨rfl, bdrewN (bal (Below.refl _ _) _) _⟩

theorem impl_number (y m d : Int) (w : World) (hM : MD w) (hv : vld y m d = true) :
    Calls Tryd.prog 88 #[.agg #[.int .i64 y, .int .i64 m, .int .i64 d]] w fun e w' => e = .returned (.int .i64 (num y m d)) ∧ Below w.heap.size w w' := by
  obtain ⟨h1, h2, h3, h4, h5, h6⟩ := vld_iff.1 hv
  have hc := cum_bd y m h3 (by omega)
  have hd := dim_bd y m
  have hn := nyr_bd y h1
  go_enter Tryd.func88, Tryd.ntmps88
  go_wp2_with fail
  go_region_held3 (fun w' => w'.cell? ⟨w.heap.size, 0, none⟩ = some (.int .i64 y) ∧ w'.cell? ⟨w.heap.size, 1, none⟩ = some (.int .i64 m) ∧ w'.cell? ⟨w.heap.size, 2, none⟩ = some (.int .i64 d)) (go_keep)
    (first | (go_at_call 102; refine (newYear_any _ _ h1 (by omega)).mono ?_; rintro e w' ⟨rfl, rfl⟩) | (go_at_call 103; refine (impl_ordinal _ _ _ _ ((hM.alloc _).drew) hv).mono ?_; rintro e w' ⟨rfl, hb⟩; obtain ⟨hcc, hff⟩ := bcell hb))
  go_wp2
  go_ret
  exact ⟨ret_int (by rw [IntWalk.i64_in (nyr y + (d + cum y m)) (by omega), IntWalk.i64_in _ (by omega)]; unfold num; omega), bto (bdrewN (bal (Below.refl _ _) _) 1) hb⟩

end Go.Proofs.YtinemkjoohgmjaaDoor
