/- Contracts: the n-th day of the week of a month (the program's). -/
import Derived.Test.YtdflacnegkgljaaDoorDt5
import Derived.Test.YtdflacnegkgljaaDoorPl
namespace Go.Proofs.YtdflacnegkgljaaDoor
open Go.RowKit

theorem nth_first {y m : Int} (h : mds y m ≠ 0) : vld y m 1 = true := by
  rcases mds_cases y m with ⟨h1, h2, h3, h4, e⟩ | ⟨_, e⟩
  · exact vld_iff.2 ⟨h1, h2, h3, h4, by omega, by have := dim_bd y m; omega⟩
  · exact absurd e h
theorem firstOf_bd (y m wd : Int) : 1 ≤ firstOf y m wd ∧ firstOf y m wd ≤ 7 := by unfold firstOf; omega

def nthV (y m wd n : Int) : Value := if nthHas y m wd n then .tuple #[.agg #[.int .i64 y, .int .i64 m, .int .i64 (nthDay y m wd n)], .bool true] else .tuple #[.agg #[.int .i64 0, .int .i64 0, .int .i64 0], .bool false]
theorem nthV_yes {y m wd n : Int} (h : nthHas y m wd n = true) : nthV y m wd n = .tuple #[.agg #[.int .i64 y, .int .i64 m, .int .i64 (nthDay y m wd n)], .bool true] := by unfold nthV; rw [if_pos h]
theorem nthV_no {y m wd n : Int} (h : nthHas y m wd n = false) : nthV y m wd n = .tuple #[.agg #[.int .i64 0, .int .i64 0, .int .i64 0], .bool false] := by unfold nthV; rw [h]; rfl

theorem mds_28 {y m : Int} (h : mds y m ≠ 0) : 28 ≤ mds y m := by
  rcases mds_cases y m with ⟨_, _, _, _, e⟩ | ⟨_, e⟩
  · rw [e]; exact (dim_bd y m).1
  · exact absurd e h

set_option maxHeartbeats 2000000 in
theorem impl_nth_in (y m wd n : Int) (w : World) (hM : MD w) (h1 : mds y m ≠ 0) (h2 : 1 ≤ wd) (h3 : wd ≤ 7) (h4 : n = -1 ∨ (1 ≤ n ∧ n ≤ 5)) :
    Calls Tryd.prog 19 #[.int .i64 y, .int .i64 m, .int .i64 wd, .int .i64 n] w fun e w' => e = .returned (nthV y m wd n) ∧ Below w.heap.size w w' := by
  have hv := nth_first h1
  have hb := num_bd hv
  have hm := mds_bd y m
  have hm28 := mds_28 h1
  have g1 : (mds y m == 0) = false := by simpa using h1
  have g2 := inB_true h2 h3
  have hfd := hide (show firstOf y m wd = 1 + (wd - (num y m 1 % 7 + 1)) % 7 from rfl)
  have hok := hide (show nthOk y m wd n = true by unfold nthOk; rw [g1, g2]; rcases h4 with rfl | ⟨h4, h5⟩ <;> simp [inB, *])
  clear h1
  rcases h4 with rfl | ⟨h4, h5⟩
  · have hn := hide (show nthDay y m wd (-1) = firstOf y m wd + (mds y m - firstOf y m wd) / 7 * 7 from rfl)
    by_cases hgt : mds y m < 1 + (wd - (num y m 1 % 7 + 1)) % 7 + (mds y m - (1 + (wd - (num y m 1 % 7 + 1)) % 7)) / 7 * 7
    · exfalso; omega
    · have HV := hide (nthV_yes (y := y) (m := m) (wd := wd) (n := -1) (by unfold nthHas; rw [hok.out, hn.out, hfd.out]; simp; omega))
      go_enter Tryd.func19, Tryd.ntmps19
      go_wp2_with (first | (go_at_call 22; refine (impl_mds _ _ _ (by exact hM.alloc _)).mono ?_; rintro e w' ⟨rfl, rfl⟩) | (go_at_call 37; refine (within_any _ _ _ _).mono ?_; rintro e w' ⟨rfl, rfl⟩))
      refine (impl_number _ _ _ _ ((hM.alloc _).alloc _) hv).mono ?_
      rintro e w1 ⟨rfl, hb1⟩
      obtain ⟨hc1, hf1⟩ := bcell hb1
      have hz1 : w.heap.size < w1.heap.size := by have := hb1.size; simp at this; omega
      have hz2 : w.heap.size + 1 < w1.heap.size := by have := hb1.size; simp at this; omega
      have H1 := bto (bal (bal (Below.refl _ _) _) _) hb1
      go_wp2_with (go_at_call 40; refine (weekdayOf_any _ _ (by omega) (by omega)).mono ?_; rintro e w' ⟨rfl, rfl⟩)
      have B0 : Blk w1 w.heap.size 25 #[.int .i64 0, .int .i64 0, .int .i64 0] := ((Blk.new w _ _).alloc _).below hb1 (by simp; omega)
      have c0 := B0.cell 0
      have c1 := B0.cell 1
      have c2 := B0.cell 2
      simp at c0 c1 c2
      refine bodyPost_ret (by simp [results, Tryd.results19, go_sem, c0, c1, c2, World.cell?_setCell_other]; try rfl) rfl ?_
      exact ⟨by rw [HV.out, hn.out, hfd.out], (by repeat' (first | (with_reducible exact Below.refl _ _) | (with_reducible assumption) | (with_reducible refine bal ?_ _) | (with_reducible refine bdrewN ?_ _) | (with_reducible refine bdrew ?_) | (with_reducible refine bset ?_ ?_ _) | omega | (simp; done) | (simp; omega)))⟩
  · have hn := hide (show nthDay y m wd n = firstOf y m wd + 7 * (n - 1) by unfold nthDay; rw [if_neg (by omega)])
    have g3 := inB_true h4 h5
    have g4 : (n == -1) = false := by simp; omega
    have g5 : (n != -1) = true := by simp; omega
    by_cases hgt : mds y m < 1 + (wd - (num y m 1 % 7 + 1)) % 7 + 7 * (n - 1)
    · have HV := hide (nthV_no (y := y) (m := m) (wd := wd) (n := n) (by unfold nthHas; rw [hok.out, hn.out, hfd.out]; simp; omega))
      go_enter Tryd.func19, Tryd.ntmps19
      go_wp2_with (first | (go_at_call 22; refine (impl_mds _ _ _ (by exact hM.alloc _)).mono ?_; rintro e w' ⟨rfl, rfl⟩) | (go_at_call 37; refine (within_any _ _ _ _).mono ?_; rintro e w' ⟨rfl, rfl⟩))
      refine (impl_number _ _ _ _ ((hM.alloc _).alloc _) hv).mono ?_
      rintro e w1 ⟨rfl, hb1⟩
      obtain ⟨hc1, hf1⟩ := bcell hb1
      have hz1 : w.heap.size < w1.heap.size := by have := hb1.size; simp at this; omega
      have hz2 : w.heap.size + 1 < w1.heap.size := by have := hb1.size; simp at this; omega
      have H1 := bto (bal (bal (Below.refl _ _) _) _) hb1
      go_wp2_with (go_at_call 40; refine (weekdayOf_any _ _ (by omega) (by omega)).mono ?_; rintro e w' ⟨rfl, rfl⟩)
      have B0 : Blk w1 w.heap.size 25 #[.int .i64 0, .int .i64 0, .int .i64 0] := ((Blk.new w _ _).alloc _).below hb1 (by simp; omega)
      have c0 := B0.cell 0
      have c1 := B0.cell 1
      have c2 := B0.cell 2
      simp at c0 c1 c2
      refine bodyPost_ret (by simp [results, Tryd.results19, go_sem, c0, c1, c2, World.cell?_setCell_other]; try rfl) rfl ?_
      exact ⟨by rw [HV.out], (by repeat' (first | (with_reducible exact Below.refl _ _) | (with_reducible assumption) | (with_reducible refine bal ?_ _) | (with_reducible refine bdrewN ?_ _) | (with_reducible refine bdrew ?_) | (with_reducible refine bset ?_ ?_ _) | omega | (simp; done) | (simp; omega)))⟩
    · have HV := hide (nthV_yes (y := y) (m := m) (wd := wd) (n := n) (by unfold nthHas; rw [hok.out, hn.out, hfd.out]; simp; omega))
      go_enter Tryd.func19, Tryd.ntmps19
      go_wp2_with (first | (go_at_call 22; refine (impl_mds _ _ _ (by exact hM.alloc _)).mono ?_; rintro e w' ⟨rfl, rfl⟩) | (go_at_call 37; refine (within_any _ _ _ _).mono ?_; rintro e w' ⟨rfl, rfl⟩))
      refine (impl_number _ _ _ _ ((hM.alloc _).alloc _) hv).mono ?_
      rintro e w1 ⟨rfl, hb1⟩
      obtain ⟨hc1, hf1⟩ := bcell hb1
      have hz1 : w.heap.size < w1.heap.size := by have := hb1.size; simp at this; omega
      have hz2 : w.heap.size + 1 < w1.heap.size := by have := hb1.size; simp at this; omega
      have H1 := bto (bal (bal (Below.refl _ _) _) _) hb1
      go_wp2_with (go_at_call 40; refine (weekdayOf_any _ _ (by omega) (by omega)).mono ?_; rintro e w' ⟨rfl, rfl⟩)
      have B0 : Blk w1 w.heap.size 25 #[.int .i64 0, .int .i64 0, .int .i64 0] := ((Blk.new w _ _).alloc _).below hb1 (by simp; omega)
      have c0 := B0.cell 0
      have c1 := B0.cell 1
      have c2 := B0.cell 2
      simp at c0 c1 c2
      refine bodyPost_ret (by simp [results, Tryd.results19, go_sem, c0, c1, c2, World.cell?_setCell_other]; try rfl) rfl ?_
      exact ⟨by rw [HV.out, hn.out, hfd.out], (by repeat' (first | (with_reducible exact Below.refl _ _) | (with_reducible assumption) | (with_reducible refine bal ?_ _) | (with_reducible refine bdrewN ?_ _) | (with_reducible refine bdrew ?_) | (with_reducible refine bset ?_ ?_ _) | omega | (simp; done) | (simp; omega)))⟩

theorem impl_nth_out (y m wd n : Int) (w : World) (hM : MD w) (h : nthOk y m wd n = false) :
    Calls Tryd.prog 19 #[.int .i64 y, .int .i64 m, .int .i64 wd, .int .i64 n] w fun e w' => e = .returned (nthV y m wd n) ∧ Below w.heap.size w w' := by
  have HV := hide (nthV_no (y := y) (m := m) (wd := wd) (n := n) (by unfold nthHas; rw [h]; rfl))
  by_cases h1 : mds y m = 0
  · have g1 : (mds y m == 0) = true := by simpa using h1
    clear h h1
    go_enter Tryd.func19, Tryd.ntmps19
    go_wp2_with (first | (go_at_call 22; refine (impl_mds _ _ _ (by exact hM.alloc _)).mono ?_; rintro e w' ⟨rfl, rfl⟩) | (go_at_call 37; refine (within_any _ _ _ _).mono ?_; rintro e w' ⟨rfl, rfl⟩))
    go_returns
    exact ⟨by rw [HV.out], (by repeat' (first | (with_reducible exact Below.refl _ _) | (with_reducible assumption) | (with_reducible refine bal ?_ _) | (with_reducible refine bdrewN ?_ _) | (with_reducible refine bdrew ?_) | (with_reducible refine bset ?_ ?_ _) | omega | (simp; done) | (simp; omega)))⟩
  · have g1 : (mds y m == 0) = false := by simpa using h1
    by_cases h2 : inB wd 1 7 = true
    · have g3 : (n == -1) = false ∧ inB n 1 5 = false := by
        unfold nthOk at h
        rw [g1, h2] at h
        simpa using h
      obtain ⟨g3, g4⟩ := g3
      have g5 : (n != -1) = true := by simpa using g3
      clear h h1
      go_enter Tryd.func19, Tryd.ntmps19
      go_wp2_with (first | (go_at_call 22; refine (impl_mds _ _ _ (by exact hM.alloc _)).mono ?_; rintro e w' ⟨rfl, rfl⟩) | (go_at_call 37; refine (within_any _ _ _ _).mono ?_; rintro e w' ⟨rfl, rfl⟩))
      go_returns
      exact ⟨by rw [HV.out], (by repeat' (first | (with_reducible exact Below.refl _ _) | (with_reducible assumption) | (with_reducible refine bal ?_ _) | (with_reducible refine bdrewN ?_ _) | (with_reducible refine bdrew ?_) | (with_reducible refine bset ?_ ?_ _) | omega | (simp; done) | (simp; omega)))⟩
    · replace h2 : inB wd 1 7 = false := by simpa using h2
      clear h h1
      go_enter Tryd.func19, Tryd.ntmps19
      go_wp2_with (first | (go_at_call 22; refine (impl_mds _ _ _ (by exact hM.alloc _)).mono ?_; rintro e w' ⟨rfl, rfl⟩) | (go_at_call 37; refine (within_any _ _ _ _).mono ?_; rintro e w' ⟨rfl, rfl⟩))
      go_returns
      exact ⟨by rw [HV.out], (by repeat' (first | (with_reducible exact Below.refl _ _) | (with_reducible assumption) | (with_reducible refine bal ?_ _) | (with_reducible refine bdrewN ?_ _) | (with_reducible refine bdrew ?_) | (with_reducible refine bset ?_ ?_ _) | omega | (simp; done) | (simp; omega)))⟩
end Go.Proofs.YtdflacnegkgljaaDoor
