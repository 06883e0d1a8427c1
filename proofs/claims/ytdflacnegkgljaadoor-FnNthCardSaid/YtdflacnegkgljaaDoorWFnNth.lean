/- The law FnNth returns true. -/
import Derived.Test.YtdflacnegkgljaaDoorNth2
import Derived.Test.YtdflacnegkgljaaDoorDrNth
import Derived.Test.YtdflacnegkgljaaDoorQt
namespace Go.Proofs.YtdflacnegkgljaaDoor
open Go.RowKit

theorem nthHas_parts {y m wd n : Int} (h : nthHas y m wd n = true) : mds y m ≠ 0 ∧ 1 ≤ wd ∧ wd ≤ 7 ∧ (n = -1 ∨ (1 ≤ n ∧ n ≤ 5)) ∧ nthDay y m wd n ≤ mds y m := by
  unfold nthHas at h
  simp only [Bool.and_eq_true, decide_eq_true_eq] at h
  obtain ⟨h1, h2, h3, h4⟩ := nthOk_true h.1
  exact ⟨h1, h2, h3, h4, h.2⟩
theorem nthDay_pos {y m wd n : Int} (h : n = -1 ∨ (1 ≤ n ∧ n ≤ 5)) (h1 : mds y m ≠ 0) : 1 ≤ nthDay y m wd n := by
  have := firstOf_bd y m wd
  have := mds_28 h1
  unfold nthDay
  split <;> omega

theorem nth_vld {y m wd n : Int} (h : nthHas y m wd n = true) : vld y m (nthDay y m wd n) = true := by
  obtain ⟨h1, h2, h3, h4, h5⟩ := nthHas_parts h
  exact inB_true (nthDay_pos h4 h1) h5
theorem nth_wd {y m wd n : Int} (h : nthHas y m wd n = true) : num y m (nthDay y m wd n) % 7 + 1 = wd := by
  obtain ⟨h1, h2, h3, h4, h5⟩ := nthHas_parts h
  have e : num y m (nthDay y m wd n) = num y m 1 + nthDay y m wd n - 1 := by unfold num; omega
  rw [e]
  generalize hN : num y m 1 = N
  have hf : firstOf y m wd = 1 + (wd - (N % 7 + 1)) % 7 := by unfold firstOf; rw [hN]
  have hk : ∃ k, nthDay y m wd n = firstOf y m wd + 7 * k := by
    unfold nthDay
    split
    · exact ⟨_, by rw [Int.mul_comm]⟩
    · exact ⟨_, rfl⟩
  obtain ⟨k, hk⟩ := hk
  omega

theorem w_FnNth (w : World) (hM : MD w) (A : Option Addr) (len cap : Nat) (hs : Src w.heap.size w A len) (hc : len ≤ cap) (hm : cap ≤ maxLen) :
    Calls Tryd.prog 7 #[.slice A len cap] w fun e w' => e = .returned (.bool true) ∧ Below w.heap.size w w' := by
  unfold maxLen at hm
  by_cases hbig : 1048576 < len
  · go_enter Tryd.func7, Tryd.ntmps7
    go_wp2_with fail
    go_ret
    exact ⟨rfl, Below.refl _ _⟩
  · go_enter Tryd.func7, Tryd.ntmps7
    go_wp2_with fail
    refine (drawNth hs (Nat.le_refl _) hc hm).mono ?_
    rintro e w1 ⟨y, m, wd, n, rfl, hb1⟩
    by_cases h : nthHas y m wd n = true
    · have HV := hide (nthV_yes h)
      obtain ⟨h1, h2, h3, h4, h5⟩ := nthHas_parts h
      have hd := nthDay_pos (wd := wd) h4 h1
      have hmb := mds_bd y m
      have HVL := hide (nth_vld h)
      have HW := hide (nth_wd h)
      clear h h1
      go_wp2_with fail
      refine (impl_nth _ _ _ _ _ (hM.below hb1)).mono ?_
      rintro e w2 ⟨rfl, hb2⟩
      rw [HV.out]
      have H2 := bto hb1 hb2
      go_wp2_with fail
      refine (spec_nth _ _ _ _ _).mono ?_
      rintro e w3 ⟨rfl, hb3⟩
      rw [HV.out]
      obtain ⟨hc3, hf3⟩ := bcell hb3
      have hz3 := bsz hb3
      have H3 := bto (bal H2 _) hb3
      go_wp2_with fail
      refine (impl_weekday _ _ _ _ ((hM.below H3).alloc _) HVL.out).mono ?_
      rintro e w4 ⟨rfl, hb4⟩
      rw [HW.out]
      have H4 := bto (bal H3 _) hb4
      go_wp2_with fail
      go_ret
      exact ⟨rfl, H4⟩
    · have HV := hide (nthV_no (show nthHas y m wd n = false by simpa using h))
      clear h
      go_wp2_with fail
      refine (impl_nth _ _ _ _ _ (hM.below hb1)).mono ?_
      rintro e w2 ⟨rfl, hb2⟩
      rw [HV.out]
      have H2 := bto hb1 hb2
      go_wp2_with fail
      refine (spec_nth _ _ _ _ _).mono ?_
      rintro e w3 ⟨rfl, hb3⟩
      rw [HV.out]
      obtain ⟨hc3, hf3⟩ := bcell hb3
      have hz3 := bsz hb3
      have H3 := bto (bal H2 _) hb3
      go_wp2_with fail
      go_ret
      exact ⟨rfl, (by repeat' (first | (with_reducible exact Below.refl _ _) | (with_reducible assumption) | (with_reducible refine bal ?_ _) | (with_reducible refine bdrewN ?_ _) | (with_reducible refine bdrew ?_) | (with_reducible refine bset ?_ ?_ _) | omega | (simp; done) | (simp; omega)))⟩
end Go.Proofs.YtdflacnegkgljaaDoor
