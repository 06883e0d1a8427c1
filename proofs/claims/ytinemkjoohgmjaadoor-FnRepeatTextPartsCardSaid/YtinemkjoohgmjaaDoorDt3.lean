/- Contracts of the reference: months, dates, numbers of days. -/
import Derived.Test.YtinemkjoohgmjaaDoorDt
namespace Go.Proofs.YtinemkjoohgmjaaDoor
open Go.RowKit

theorem l2Years_any (y : Int) (w : World) (h1 : 1 ≤ y) (h2 : y ≤ 10000) :
    Calls Tryd.prog 86 #[.int .i64 y] w fun e w' => e = .returned (.int .i64 (nyr y)) ∧ w = w' := by
  go_enter Tryd.func86, Tryd.ntmps86
  go_wp2
  go_ret
  exact ⟨rfl, rfl⟩

set_option maxHeartbeats 1000000 in
theorem spec_mds (y m : Int) (w : World) :
    Calls Tryd.prog 90 #[.int .i64 y, .int .i64 m] w fun e w' => e = .returned (.int .i64 (mds y m)) ∧ Below w.heap.size w w' := by
  by_cases hy : inB y 1 9999 = true
  · by_cases hm : inB m 1 12 = true
    · obtain ⟨h1, h2⟩ := inB_iff.1 hy
      obtain ⟨h3, h4⟩ := inB_iff.1 hm
      by_cases hl : m = 2 ∧ lp y = 1
      · obtain ⟨rfl, hl⟩ := hl
        have HF := hide (show mds y 2 = 29 by rw [mds_in h1 h2 h3 h4]; simp [dim, hl])
        have hlp : leapB y = true := by rw [leap_in h1 h2, hl]; rfl
        clear hl
        go_enter Tryd.func90, Tryd.ntmps90
        go_wp2_with (first | (go_at_call 56; refine (l6In_any _ _ _ _).mono ?_; rintro e w' ⟨rfl, rfl⟩) | (go_at_call 105; refine (spec_leap _ _).mono ?_; rintro e w' ⟨rfl, rfl⟩))
        go_ret
        exact ⟨by rw [HF.out]; rfl, Below.refl _ _⟩
      · have HF := hide (mds_in h1 h2 h3 h4)
        rcases months h3 h4 with rfl | rfl | rfl | rfl | rfl | rfl | rfl | rfl | rfl | rfl | rfl | rfl
        case inr.inl =>
          have hlp : leapB y = false := by
            rw [leap_in h1 h2]
            simpa using hl
          have hd : lp y = 0 := by
            have := lp_01 y
            omega
          clear hl
          go_enter Tryd.func90, Tryd.ntmps90
          go_wp2_with (first | (go_at_call 56; refine (l6In_any _ _ _ _).mono ?_; rintro e w' ⟨rfl, rfl⟩) | (go_at_call 105; refine (spec_leap _ _).mono ?_; rintro e w' ⟨rfl, rfl⟩))
          go_ret
          exact ⟨by rw [HF.out]; simp [dim, hd], by go_grown⟩
        all_goals
          clear hl
          go_enter Tryd.func90, Tryd.ntmps90
          go_wp2_with (first | (go_at_call 56; refine (l6In_any _ _ _ _).mono ?_; rintro e w' ⟨rfl, rfl⟩) | (go_at_call 105; refine (spec_leap _ _).mono ?_; rintro e w' ⟨rfl, rfl⟩))
          go_ret
          exact ⟨by rw [HF.out]; simp [dim], by go_grown⟩
    · replace hm : inB m 1 12 = false := by simpa using hm
      have HF := hide (show mds y m = 0 by unfold mds; rw [hm]; simp)
      go_enter Tryd.func90, Tryd.ntmps90
      go_wp2_with (first | (go_at_call 56; refine (l6In_any _ _ _ _).mono ?_; rintro e w' ⟨rfl, rfl⟩) | (go_at_call 105; refine (spec_leap _ _).mono ?_; rintro e w' ⟨rfl, rfl⟩))
      go_ret
      exact ⟨by rw [HF.out]; rfl, Below.refl _ _⟩
  · replace hy : inB y 1 9999 = false := by simpa using hy
    have HF := hide (show mds y m = 0 by unfold mds; rw [hy]; simp)
    go_enter Tryd.func90, Tryd.ntmps90
    go_wp2_with (first | (go_at_call 56; refine (l6In_any _ _ _ _).mono ?_; rintro e w' ⟨rfl, rfl⟩) | (go_at_call 105; refine (spec_leap _ _).mono ?_; rintro e w' ⟨rfl, rfl⟩))
    go_ret
    exact ⟨by rw [HF.out]; rfl, Below.refl _ _⟩

theorem spec_dateValid (y m d : Int) (w : World) :
    Calls Tryd.prog 72 #[.agg #[.int .i64 y, .int .i64 m, .int .i64 d]] w fun e w' => e = .returned (.bool (vld y m d)) ∧ Below w.heap.size w w' := by
  go_enter Tryd.func72, Tryd.ntmps72
  go_wp2_with fail
  go_region_held3 (fun w' => w'.cell? ⟨w.heap.size, 0, none⟩ = some (.int .i64 y) ∧ w'.cell? ⟨w.heap.size, 1, none⟩ = some (.int .i64 m) ∧ w'.cell? ⟨w.heap.size, 2, none⟩ = some (.int .i64 d)) (go_keep)
    (first | (go_at_call 56; refine (l6In_any _ _ _ _).mono ?_; rintro e w' ⟨rfl, rfl⟩) | (go_at_call 90; refine (spec_mds _ _ _).mono ?_; rintro e w' ⟨rfl, hb⟩; obtain ⟨hcc, hff⟩ := bcell hb))
  go_wp2
  go_ret
  exact ⟨rfl, bto (bdrewN (bal (Below.refl _ _) _) 1) hb⟩
theorem spec_l2Months (y m : Int) (w : World) (h1 : 1 ≤ y) (h2 : y ≤ 9999) (h3 : 1 ≤ m) (h4 : m ≤ 13) :
    Calls Tryd.prog 87 #[.int .i64 y, .int .i64 m] w fun e w' => e = .returned (.int .i64 (cum y m)) ∧ Below w.heap.size w w' := by
  go_enter Tryd.func87, Tryd.ntmps87
  go_wp2_with fail
  go_loopw [5, 6] (fun n k wr => ∃ i : Int, 1 ≤ i ∧ i ≤ m ∧ k = .int .i64 i ∧ n = .int .i64 (cum y i) ∧ Below w.heap.size w wr) (fun _ k _ => (13 - intOf k).toNat)
  case atStart => exact ⟨1, by omega, by omega, rfl, by rw [cum_1], Below.refl _ _⟩
  case round =>
    obtain ⟨i, hi1, hi2, rfl, rfl, hb⟩ := hrel
    have hc := cum_bd y i hi1 (by omega)
    have hm := mds_bd y i
    by_cases hlt : i < m
    · have hs := hide (cum_succ y i hi1 (by omega))
      have he := hide (mds_in h1 h2 hi1 (show i ≤ 12 by omega))
      go_wp2_with fail
      refine (spec_mds _ _ _).mono ?_
      rintro e w1 ⟨rfl, hb1⟩
      go_wp2_with fail
      go_roundw
      case rel => exact ⟨i + 1, by omega, by omega, by go_num, by rw [hs.out, ← he.out], bto hb hb1⟩
      case measure => simp [intOf]; omega
    · obtain rfl : i = m := by omega
      go_wp2_with fail
      go_ret
      exact ⟨rfl, hb⟩
theorem spec_dayNumber (y m d : Int) (w : World) :
    Calls Tryd.prog 68 #[.agg #[.int .i64 y, .int .i64 m, .int .i64 d]] w fun e w' => e = .returned (.int .i64 (dnum y m d)) ∧ Below w.heap.size w w' := by
  by_cases hv : vld y m d = true
  · obtain ⟨h1, h2, h3, h4, h5, h6⟩ := vld_iff.1 hv
    have hc := cum_bd y m h3 (by omega)
    have hd := dim_bd y m
    have hn := nyr_bd y h1
    go_enter Tryd.func68, Tryd.ntmps68
    go_wp2_with fail
    refine (spec_dateValid _ _ _ _).mono ?_
    rintro e w1 ⟨rfl, hb1⟩
    obtain ⟨hc1, hf1⟩ := bcell hb1
    have hz1 := bsz hb1
    go_wp2_with fail
    go_region_held3 (fun w' => w'.cell? ⟨w.heap.size, 0, none⟩ = some (.int .i64 y) ∧ w'.cell? ⟨w.heap.size, 1, none⟩ = some (.int .i64 m) ∧ w'.cell? ⟨w.heap.size, 2, none⟩ = some (.int .i64 d)) (first | go_keep | (refine keep3 hb ?_ ?_; (simp; omega); assumption))
      (first | (go_at_call 86; refine (l2Years_any _ _ h1 (by omega)).mono ?_; rintro e w' ⟨rfl, rfl⟩) | (go_at_call 87; refine (spec_l2Months _ _ _ h1 h2 h3 (by omega)).mono ?_; rintro e w' ⟨rfl, hb⟩; obtain ⟨hcc, hff⟩ := bcell hb))
    go_wp2
    go_ret
    exact ⟨ret_int (by rw [dnum_yes hv, IntWalk.i64_in (nyr y + cum y m) (by omega), IntWalk.i64_in (nyr y + cum y m + d) (by omega), IntWalk.i64_in _ (by omega)]; rfl), bto (bdrewN (bto (bal (Below.refl _ _) _) hb1) 1) hb⟩
  · replace hv : vld y m d = false := by simpa using hv
    go_enter Tryd.func68, Tryd.ntmps68
    go_wp2_with fail
    refine (spec_dateValid _ _ _ _).mono ?_
    rintro e w1 ⟨rfl, hb1⟩
    go_wp2_with fail
    go_ret
    exact ⟨by rw [dnum_no hv]; rfl, bto (bal (Below.refl _ _) _) hb1⟩
end Go.Proofs.YtinemkjoohgmjaaDoor
