/- Contracts: the date of a day (both), the day of the week. -/
import Derived.Test.YtinemkjoohgmjaaDoorDt3
namespace Go.Proofs.YtinemkjoohgmjaaDoor
open Go.RowKit

theorem spec_dateOf_yes (n : Int) (w : World) (h0 : 0 ≤ n) (h1 : n ≤ 3652058) :
    Calls Tryd.prog 66 #[.int .i64 n] w fun e w' => e = .returned (.tuple #[.agg #[.int .i64 (yOf n), .int .i64 (mOf n), .int .i64 (dOf n)], .bool true]) ∧ Below w.heap.size w w' := by
  have hi := inB_true h0 h1
  obtain ⟨g1, g2, g3⟩ := guess n h0 h1
  go_enter Tryd.func66, Tryd.ntmps66
  go_wp2_with (go_at_call 56; refine (l6In_any _ _ _ _).mono ?_; rintro e w' ⟨rfl, rfl⟩)
  go_loop [4] (fun t => ∃ y : Int, 1 ≤ y ∧ y ≤ 9999 ∧ nyr y ≤ n ∧ t = .int .i64 y) (fun t => (9999 - intOf t).toNat)
  case atStart => exact ⟨_, g1, g2, g3, rfl⟩
  case round =>
    obtain ⟨y, hy1, hy2, hy3, rfl⟩ := hrel
    by_cases hc : y < 9999 ∧ nyr (y + 1) ≤ n
    · obtain ⟨hlt, hd⟩ := hc
      go_wp2_with (go_at_call 86; refine (l2Years_any _ _ (by omega) (by omega)).mono ?_; rintro e w' ⟨rfl, rfl⟩)
      go_round
      case rel => exact ⟨y + 1, by omega, by omega, hd, rfl⟩
      case measure => simp [intOf]; omega
    · have hz : n < nyr (y + 1) := by
        by_cases e : y = 9999
        · rw [e]; show _ < nyr 10000; rw [nyr_10000]; omega
        · omega
      have hyb := nyr_bd y hy1
      have hys := hide (nyr_succ y hy1)
      have hl := lp_01 y
      clear hc
      by_cases hlt : y < 9999
      all_goals
        go_wp2_with (go_at_call 86; refine (l2Years_any _ _ (by omega) (by omega)).mono ?_; rintro e w' ⟨rfl, rfl⟩)
        go_loopw [5] (fun t wr => ∃ m : Int, 1 ≤ m ∧ m ≤ 12 ∧ nyr y + cum y m ≤ n ∧ t = .int .i64 m ∧ Below (w.alloc (.cells #[.int .i64 0, .int .i64 0, .int .i64 0] 24)).heap.size (w.alloc (.cells #[.int .i64 0, .int .i64 0, .int .i64 0] 24)) wr) (fun t _ => (12 - intOf t).toNat)
        case atStart => exact ⟨1, by omega, by omega, by rw [cum_1]; omega, rfl, Below.refl _ _⟩
        case round =>
          obtain ⟨m, hm1, hm2, hm3, rfl, hb⟩ := hrel
          have hcb := cum_bd y m hm1 (by omega)
          have hcb' := cum_bd y (m + 1) (by omega) (by omega)
          have hsc := hide (cum_succ y m hm1 hm2)
          have hdb := dim_bd y m
          by_cases hc : m < 12 ∧ nyr y + cum y (m + 1) ≤ n
          · obtain ⟨hm12, hle⟩ := hc
            go_wp2_with (go_at_call 86; refine (l2Years_any _ _ (by omega) (by omega)).mono ?_; rintro e w' ⟨rfl, rfl⟩)
            refine (spec_l2Months _ _ _ hy1 hy2 (by omega) (by omega)).mono ?_
            rintro e w1 ⟨rfl, hb1⟩
            go_wp2_with fail
            go_roundw
            case rel => exact ⟨m + 1, by omega, by omega, hle, rfl, bto hb hb1⟩
            case measure => simp [intOf]; omega
          · have hlast : n < nyr y + cum y (m + 1) := by
              rcases (show m = 12 ∨ m < 12 by omega) with rfl | h
              · have h13 := cum_13 y
                have := hys.out
                simp at *
                omega
              · omega
            have hv : vld y m (n - nyr y - cum y m + 1) = true := vld_iff.2 ⟨hy1, hy2, hm1, hm2, by omega, by have := hsc.out; omega⟩
            have HE := hide (dateD_of hv (show num y m (n - nyr y - cum y m + 1) = n by unfold num; omega))
            clear hc hv
            by_cases hm12 : m < 12
            · go_wp2_with (go_at_call 86; refine (l2Years_any _ _ (by omega) (by omega)).mono ?_; rintro e w' ⟨rfl, rfl⟩)
              refine (spec_l2Months _ _ _ hy1 hy2 (by omega) (by omega)).mono ?_
              rintro e w1 ⟨rfl, hb1⟩
              go_wp2_with (go_at_call 86; refine (l2Years_any _ _ (by omega) (by omega)).mono ?_; rintro e w' ⟨rfl, rfl⟩)
              refine (spec_l2Months _ _ _ hy1 hy2 hm1 (by omega)).mono ?_
              rintro e w2 ⟨rfl, hb2⟩
              have H2 := bto (bto hb hb1) hb2
              obtain ⟨hc2, hf2⟩ := bcell H2
              have hz2 := bsz H2
              have H3 := bto (bal (Below.refl _ _) _) H2
              go_wp2_with fail
              obtain ⟨e1, e2, e3⟩ := HE.out
              refine bodyPost_ret (by simp [results, Tryd.results66, go_sem, hc2]; try rfl) rfl ?_
              exact ⟨by rw [e1, e2, e3], (by repeat' (first | (with_reducible exact Below.refl _ _) | (with_reducible assumption) | (with_reducible refine bal ?_ _) | (with_reducible refine bdrewN ?_ _) | (with_reducible refine bdrew ?_) | (with_reducible refine bset ?_ ?_ _) | (with_reducible refine brow ?_ ?_ _) | omega | (simp; done) | (simp; omega)))⟩
            · go_wp2_with (go_at_call 86; refine (l2Years_any _ _ (by omega) (by omega)).mono ?_; rintro e w' ⟨rfl, rfl⟩)
              refine (spec_l2Months _ _ _ hy1 hy2 hm1 (by omega)).mono ?_
              rintro e w2 ⟨rfl, hb2⟩
              have H2 := bto hb hb2
              obtain ⟨hc2, hf2⟩ := bcell H2
              have hz2 := bsz H2
              have H3 := bto (bal (Below.refl _ _) _) H2
              go_wp2_with fail
              obtain ⟨e1, e2, e3⟩ := HE.out
              refine bodyPost_ret (by simp [results, Tryd.results66, go_sem, hc2]; try rfl) rfl ?_
              exact ⟨by rw [e1, e2, e3], (by repeat' (first | (with_reducible exact Below.refl _ _) | (with_reducible assumption) | (with_reducible refine bal ?_ _) | (with_reducible refine bdrewN ?_ _) | (with_reducible refine bdrew ?_) | (with_reducible refine bset ?_ ?_ _) | (with_reducible refine brow ?_ ?_ _) | omega | (simp; done) | (simp; omega)))⟩
theorem spec_dateOf_no (n : Int) (w : World) (h : ¬ (0 ≤ n ∧ n ≤ 3652058)) :
    Calls Tryd.prog 66 #[.int .i64 n] w fun e w' => e = .returned (.tuple #[.agg #[.int .i64 0, .int .i64 0, .int .i64 0], .bool false]) ∧ Below w.heap.size w w' := by
  have hi := inB_not.2 h
  go_enter Tryd.func66, Tryd.ntmps66
  go_wp2_with (go_at_call 56; refine (l6In_any _ _ _ _).mono ?_; rintro e w' ⟨rfl, rfl⟩)
  go_returns
  exact ⟨rfl, (by repeat' (first | (with_reducible exact Below.refl _ _) | (with_reducible assumption) | (with_reducible refine bal ?_ _) | (with_reducible refine bdrewN ?_ _) | (with_reducible refine bdrew ?_) | (with_reducible refine bset ?_ ?_ _) | (with_reducible refine brow ?_ ?_ _) | omega | (simp; done) | (simp; omega)))⟩
end Go.Proofs.YtinemkjoohgmjaaDoor
