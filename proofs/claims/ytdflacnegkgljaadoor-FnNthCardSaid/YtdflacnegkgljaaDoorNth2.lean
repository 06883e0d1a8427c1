/- Contracts: the n-th day of the week of a month (the reference's). -/
import Derived.Test.YtdflacnegkgljaaDoorNth
namespace Go.Proofs.YtdflacnegkgljaaDoor
open Go.RowKit

theorem spec_weekday (y m d : Int) (w : World) (hv : vld y m d = true) :
    Calls Tryd.prog 43 #[.agg #[.int .i64 y, .int .i64 m, .int .i64 d]] w fun e w' => e = .returned (.int .i64 (num y m d % 7 + 1)) ∧ Below w.heap.size w w' := by
  have hn := num_bd hv
  have hdn := hide (dnum_yes hv)
  go_enter Tryd.func43, Tryd.ntmps43
  go_wp2_with fail
  refine (spec_dateValid _ _ _ _).mono ?_
  rintro e w1 ⟨rfl, hb1⟩
  obtain ⟨hc1, hf1⟩ := bcell hb1
  go_wp2_with fail
  refine (spec_dayNumber _ _ _ _).mono ?_
  rintro e w2 ⟨rfl, hb2⟩
  rw [hdn.out]
  go_wp2_with fail
  go_ret
  exact ⟨rfl, bto (bto (bal (Below.refl _ _) _) hb1) hb2⟩

set_option maxHeartbeats 2000000 in
theorem spec_nth_in (y m wd n : Int) (w : World) (h1 : mds y m ≠ 0) (h2 : 1 ≤ wd) (h3 : wd ≤ 7) (h4 : n = -1 ∨ (1 ≤ n ∧ n ≤ 5)) :
    Calls Tryd.prog 18 #[.int .i64 y, .int .i64 m, .int .i64 wd, .int .i64 n] w fun e w' => e = .returned (nthV y m wd n) ∧ Below w.heap.size w w' := by
  have hv := nth_first h1
  have hb := num_bd hv
  have hm := mds_bd y m
  have hm28 := mds_28 h1
  have g1 : (mds y m == 0) = false := by simpa using h1
  have g2 := inB_true h2 h3
  have hfd := hide (show firstOf y m wd = 1 + (wd - (num y m 1 % 7 + 1)) % 7 from rfl)
  have hok := hide (show nthOk y m wd n = true by unfold nthOk; rw [g1, g2]; rcases h4 with rfl | ⟨h4, h5⟩ <;> simp [inB, *])
  clear h1
  rcases h4 with rfl | ⟨h4, h5⟩
  · have hn := hide (show nthDay y m wd (-1) = firstOf y m wd + (mds y m - firstOf y m wd) / 7 * 7 from rfl)
    have HV := hide (nthV_yes (y := y) (m := m) (wd := wd) (n := -1) (by unfold nthHas; rw [hok.out, hn.out, hfd.out]; simp; omega))
    go_enter Tryd.func18, Tryd.ntmps18
    go_wp2_with fail
    refine (spec_mds _ _ _).mono ?_
    rintro e w1 ⟨rfl, hb1⟩
    obtain ⟨hc1, hf1⟩ := bcell hb1
    have hz1 := bsz hb1
    go_wp2_with (first | (go_at_call 38; refine (l6In_any _ _ _ _).mono ?_; rintro e w' ⟨rfl, rfl⟩))
    refine (spec_weekday _ _ _ _ hv).mono ?_
    rintro e w2 ⟨rfl, hb2⟩
    obtain ⟨hc2, hf2⟩ := bcell hb2
    have hz2 := bsz hb2
    go_wp2_with fail
    have HX := hide (show vld y m (1 + (wd - (num y m 1 % 7 + 1)) % 7 + 7 * ((mds y m - (1 + (wd - (num y m 1 % 7 + 1)) % 7)) / 7)) = true from inB_true (by omega) (by omega))
    refine (spec_dateValid _ _ _ _).mono ?_
    rintro e w3 ⟨rfl, hb3⟩
    rw [HX.out]
    obtain ⟨hc3, hf3⟩ := bcell hb3
    have hz3 := bsz hb3
    have hz4 : w.heap.size < w3.heap.size := by omega
    have H3 := bto (bal (bto (bal (bto (bal (Below.refl _ _) _) hb1) _) hb2) _) hb3
    have B0 : Blk w3 w.heap.size 25 #[.int .i64 0, .int .i64 0, .int .i64 0] := (((((Blk.new w _ _).below hb1 (by simp)).alloc _).below hb2 (by simp; omega)).alloc _).below hb3 (by simp; omega)
    have B1 : Blk w3 w2.heap.size 25 #[.int .i64 y, .int .i64 m, .int .i64 (1 + (wd - (num y m 1 % 7 + 1)) % 7 + 7 * ((mds y m - (1 + (wd - (num y m 1 % 7 + 1)) % 7)) / 7))] := (Blk.new w2 _ _).below hb3 (by simp)
    have c0 := B0.cell 0
    have c1 := B0.cell 1
    have c2 := B0.cell 2
    have f0 := B0.frozen 0
    have f1 := B0.frozen 1
    have f2 := B0.frozen 2
    have d0 := B1.cell 0
    have d1 := B1.cell 1
    have d2 := B1.cell 2
    simp at c0 c1 c2 d0 d1 d2
    clear hc1 hf1 hc2 hf2 hc3 hf3
    go_wp2_with fail
    refine bodyPost_ret (by simp [results, Tryd.results18, go_sem, c0, c1, c2, World.cell?_setCell_other]; try rfl) rfl ?_
    exact ⟨by rw [HV.out, hn.out, hfd.out, Int.mul_comm ((mds y m - (1 + (wd - (num y m 1 % 7 + 1)) % 7)) / 7) 7], (by repeat' (first | (with_reducible exact Below.refl _ _) | (with_reducible assumption) | (with_reducible refine bal ?_ _) | (with_reducible refine bdrewN ?_ _) | (with_reducible refine bdrew ?_) | (with_reducible refine bset ?_ ?_ _) | omega | (simp; done) | (simp; omega)))⟩
  · have hn := hide (show nthDay y m wd n = firstOf y m wd + 7 * (n - 1) by unfold nthDay; rw [if_neg (by omega)])
    have g3 := inB_true h4 h5
    have g4 : (n == -1) = false := by simp; omega
    have g5 : (n != -1) = true := by simp; omega
    by_cases hgt : mds y m < 1 + (wd - (num y m 1 % 7 + 1)) % 7 + 7 * (n - 1)
    · have HV := hide (nthV_no (y := y) (m := m) (wd := wd) (n := n) (by unfold nthHas; rw [hok.out, hn.out, hfd.out]; simp; omega))
      go_enter Tryd.func18, Tryd.ntmps18
      go_wp2_with fail
      refine (spec_mds _ _ _).mono ?_
      rintro e w1 ⟨rfl, hb1⟩
      obtain ⟨hc1, hf1⟩ := bcell hb1
      have hz1 := bsz hb1
      go_wp2_with (first | (go_at_call 38; refine (l6In_any _ _ _ _).mono ?_; rintro e w' ⟨rfl, rfl⟩))
      refine (spec_weekday _ _ _ _ hv).mono ?_
      rintro e w2 ⟨rfl, hb2⟩
      obtain ⟨hc2, hf2⟩ := bcell hb2
      have hz2 := bsz hb2
      go_wp2_with fail
      have HX := hide (show vld y m (1 + (wd - (num y m 1 % 7 + 1)) % 7 + 7 * (n - 1)) = false from inB_high (by omega))
      refine (spec_dateValid _ _ _ _).mono ?_
      rintro e w3 ⟨rfl, hb3⟩
      rw [HX.out]
      obtain ⟨hc3, hf3⟩ := bcell hb3
      have hz3 := bsz hb3
      have hz4 : w.heap.size < w3.heap.size := by omega
      have H3 := bto (bal (bto (bal (bto (bal (Below.refl _ _) _) hb1) _) hb2) _) hb3
      have B0 : Blk w3 w.heap.size 25 #[.int .i64 0, .int .i64 0, .int .i64 0] := (((((Blk.new w _ _).below hb1 (by simp)).alloc _).below hb2 (by simp; omega)).alloc _).below hb3 (by simp; omega)
      have B1 : Blk w3 w2.heap.size 25 #[.int .i64 y, .int .i64 m, .int .i64 (1 + (wd - (num y m 1 % 7 + 1)) % 7 + 7 * (n - 1))] := (Blk.new w2 _ _).below hb3 (by simp)
      have c0 := B0.cell 0
      have c1 := B0.cell 1
      have c2 := B0.cell 2
      have f0 := B0.frozen 0
      have f1 := B0.frozen 1
      have f2 := B0.frozen 2
      have d0 := B1.cell 0
      have d1 := B1.cell 1
      have d2 := B1.cell 2
      simp at c0 c1 c2 d0 d1 d2
      clear hc1 hf1 hc2 hf2 hc3 hf3
      go_wp2_with fail
      refine bodyPost_ret (by simp [results, Tryd.results18, go_sem, c0, c1, c2, World.cell?_setCell_other]; try rfl) rfl ?_
      exact ⟨by rw [HV.out], (by repeat' (first | (with_reducible exact Below.refl _ _) | (with_reducible assumption) | (with_reducible refine bal ?_ _) | (with_reducible refine bdrewN ?_ _) | (with_reducible refine bdrew ?_) | (with_reducible refine bset ?_ ?_ _) | omega | (simp; done) | (simp; omega)))⟩
    · have HV := hide (nthV_yes (y := y) (m := m) (wd := wd) (n := n) (by unfold nthHas; rw [hok.out, hn.out, hfd.out]; simp; omega))
      go_enter Tryd.func18, Tryd.ntmps18
      go_wp2_with fail
      refine (spec_mds _ _ _).mono ?_
      rintro e w1 ⟨rfl, hb1⟩
      obtain ⟨hc1, hf1⟩ := bcell hb1
      have hz1 := bsz hb1
      go_wp2_with (first | (go_at_call 38; refine (l6In_any _ _ _ _).mono ?_; rintro e w' ⟨rfl, rfl⟩))
      refine (spec_weekday _ _ _ _ hv).mono ?_
      rintro e w2 ⟨rfl, hb2⟩
      obtain ⟨hc2, hf2⟩ := bcell hb2
      have hz2 := bsz hb2
      go_wp2_with fail
      have HX := hide (show vld y m (1 + (wd - (num y m 1 % 7 + 1)) % 7 + 7 * (n - 1)) = true from inB_true (by omega) (by omega))
      refine (spec_dateValid _ _ _ _).mono ?_
      rintro e w3 ⟨rfl, hb3⟩
      rw [HX.out]
      obtain ⟨hc3, hf3⟩ := bcell hb3
      have hz3 := bsz hb3
      have hz4 : w.heap.size < w3.heap.size := by omega
      have H3 := bto (bal (bto (bal (bto (bal (Below.refl _ _) _) hb1) _) hb2) _) hb3
      have B0 : Blk w3 w.heap.size 25 #[.int .i64 0, .int .i64 0, .int .i64 0] := (((((Blk.new w _ _).below hb1 (by simp)).alloc _).below hb2 (by simp; omega)).alloc _).below hb3 (by simp; omega)
      have B1 : Blk w3 w2.heap.size 25 #[.int .i64 y, .int .i64 m, .int .i64 (1 + (wd - (num y m 1 % 7 + 1)) % 7 + 7 * (n - 1))] := (Blk.new w2 _ _).below hb3 (by simp)
      have c0 := B0.cell 0
      have c1 := B0.cell 1
      have c2 := B0.cell 2
      have f0 := B0.frozen 0
      have f1 := B0.frozen 1
      have f2 := B0.frozen 2
      have d0 := B1.cell 0
      have d1 := B1.cell 1
      have d2 := B1.cell 2
      simp at c0 c1 c2 d0 d1 d2
      clear hc1 hf1 hc2 hf2 hc3 hf3
      go_wp2_with fail
      refine bodyPost_ret (by simp [results, Tryd.results18, go_sem, c0, c1, c2, World.cell?_setCell_other]; try rfl) rfl ?_
      exact ⟨by rw [HV.out, hn.out, hfd.out], (by repeat' (first | (with_reducible exact Below.refl _ _) | (with_reducible assumption) | (with_reducible refine bal ?_ _) | (with_reducible refine bdrewN ?_ _) | (with_reducible refine bdrew ?_) | (with_reducible refine bset ?_ ?_ _) | omega | (simp; done) | (simp; omega)))⟩

theorem spec_nth_out (y m wd n : Int) (w : World) (h : nthOk y m wd n = false) :
    Calls Tryd.prog 18 #[.int .i64 y, .int .i64 m, .int .i64 wd, .int .i64 n] w fun e w' => e = .returned (nthV y m wd n) ∧ Below w.heap.size w w' := by
  have HV := hide (nthV_no (y := y) (m := m) (wd := wd) (n := n) (by unfold nthHas; rw [h]; rfl))
  have main : ∀ (e : Ending) (w' : World), (e = .returned (.tuple #[.agg #[.int .i64 0, .int .i64 0, .int .i64 0], .bool false]) ∧ Below w.heap.size w w') → (e = .returned (nthV y m wd n) ∧ Below w.heap.size w w') := fun e w' ⟨h1, h2⟩ => ⟨by rw [h1, HV.out], h2⟩
  refine Calls.mono (R := fun e w' => e = .returned (.tuple #[.agg #[.int .i64 0, .int .i64 0, .int .i64 0], .bool false]) ∧ Below w.heap.size w w') ?_ main
  clear main HV
  by_cases h1 : mds y m = 0
  · have g1 : (mds y m == 0) = true := by simpa using h1
    clear h h1
    go_enter Tryd.func18, Tryd.ntmps18
    go_wp2_with fail
    refine (spec_mds _ _ _).mono ?_
    rintro e w1 ⟨rfl, hb1⟩
    have H1 := bto (bal (Below.refl _ _) _) hb1
    have B0 : Blk w1 w.heap.size 25 #[.int .i64 0, .int .i64 0, .int .i64 0] := (Blk.new w _ _).below hb1 (by simp)
    have c0 := B0.cell 0
    have c1 := B0.cell 1
    have c2 := B0.cell 2
    have f0 := B0.frozen 0
    have f1 := B0.frozen 1
    have f2 := B0.frozen 2
    simp at c0 c1 c2
    go_wp2_with (first | (go_at_call 38; refine (l6In_any _ _ _ _).mono ?_; rintro e w' ⟨rfl, rfl⟩))
    refine bodyPost_ret (by simp [results, Tryd.results18, go_sem, c0, c1, c2, World.cell?_setCell_other]; try rfl) rfl ?_
    exact ⟨rfl, (by repeat' (first | (with_reducible exact Below.refl _ _) | (with_reducible assumption) | (with_reducible refine bal ?_ _) | (with_reducible refine bdrewN ?_ _) | (with_reducible refine bdrew ?_) | (with_reducible refine bset ?_ ?_ _) | omega | (simp; done) | (simp; omega)))⟩
  · have g1 : (mds y m == 0) = false := by simpa using h1
    by_cases h2 : inB wd 1 7 = true
    · have g3 : (n == -1) = false ∧ inB n 1 5 = false := by
        unfold nthOk at h
        rw [g1, h2] at h
        simpa using h
      obtain ⟨g3, g4⟩ := g3
      have g5 : (n != -1) = true := by simpa using g3
      clear h h1
      go_enter Tryd.func18, Tryd.ntmps18
      go_wp2_with fail
      refine (spec_mds _ _ _).mono ?_
      rintro e w1 ⟨rfl, hb1⟩
      have H1 := bto (bal (Below.refl _ _) _) hb1
      have B0 : Blk w1 w.heap.size 25 #[.int .i64 0, .int .i64 0, .int .i64 0] := (Blk.new w _ _).below hb1 (by simp)
      have c0 := B0.cell 0
      have c1 := B0.cell 1
      have c2 := B0.cell 2
      have f0 := B0.frozen 0
      have f1 := B0.frozen 1
      have f2 := B0.frozen 2
      simp at c0 c1 c2
      go_wp2_with (first | (go_at_call 38; refine (l6In_any _ _ _ _).mono ?_; rintro e w' ⟨rfl, rfl⟩))
      refine bodyPost_ret (by simp [results, Tryd.results18, go_sem, c0, c1, c2, World.cell?_setCell_other]; try rfl) rfl ?_
      exact ⟨rfl, (by repeat' (first | (with_reducible exact Below.refl _ _) | (with_reducible assumption) | (with_reducible refine bal ?_ _) | (with_reducible refine bdrewN ?_ _) | (with_reducible refine bdrew ?_) | (with_reducible refine bset ?_ ?_ _) | omega | (simp; done) | (simp; omega)))⟩
    · replace h2 : inB wd 1 7 = false := by simpa using h2
      clear h h1
      go_enter Tryd.func18, Tryd.ntmps18
      go_wp2_with fail
      refine (spec_mds _ _ _).mono ?_
      rintro e w1 ⟨rfl, hb1⟩
      have H1 := bto (bal (Below.refl _ _) _) hb1
      have B0 : Blk w1 w.heap.size 25 #[.int .i64 0, .int .i64 0, .int .i64 0] := (Blk.new w _ _).below hb1 (by simp)
      have c0 := B0.cell 0
      have c1 := B0.cell 1
      have c2 := B0.cell 2
      have f0 := B0.frozen 0
      have f1 := B0.frozen 1
      have f2 := B0.frozen 2
      simp at c0 c1 c2
      go_wp2_with (first | (go_at_call 38; refine (l6In_any _ _ _ _).mono ?_; rintro e w' ⟨rfl, rfl⟩))
      refine bodyPost_ret (by simp [results, Tryd.results18, go_sem, c0, c1, c2, World.cell?_setCell_other]; try rfl) rfl ?_
      exact ⟨rfl, (by repeat' (first | (with_reducible exact Below.refl _ _) | (with_reducible assumption) | (with_reducible refine bal ?_ _) | (with_reducible refine bdrewN ?_ _) | (with_reducible refine bdrew ?_) | (with_reducible refine bset ?_ ?_ _) | omega | (simp; done) | (simp; omega)))⟩

theorem nthOk_true {y m wd n : Int} (h : nthOk y m wd n = true) : mds y m ≠ 0 ∧ 1 ≤ wd ∧ wd ≤ 7 ∧ (n = -1 ∨ (1 ≤ n ∧ n ≤ 5)) := by
  unfold nthOk at h
  simp only [Bool.and_eq_true, Bool.or_eq_true, inB_iff, beq_iff_eq, Bool.not_eq_true', beq_eq_false_iff_ne] at h
  exact ⟨h.1.1, h.1.2.1, h.1.2.2, h.2⟩
theorem impl_nth (y m wd n : Int) (w : World) (hM : MD w) :
    Calls Tryd.prog 19 #[.int .i64 y, .int .i64 m, .int .i64 wd, .int .i64 n] w fun e w' => e = .returned (nthV y m wd n) ∧ Below w.heap.size w w' := by
  by_cases h : nthOk y m wd n = true
  · obtain ⟨h1, h2, h3, h4⟩ := nthOk_true h
    exact impl_nth_in y m wd n w hM h1 h2 h3 h4
  · exact impl_nth_out y m wd n w hM (by simpa using h)
theorem spec_nth (y m wd n : Int) (w : World) :
    Calls Tryd.prog 18 #[.int .i64 y, .int .i64 m, .int .i64 wd, .int .i64 n] w fun e w' => e = .returned (nthV y m wd n) ∧ Below w.heap.size w w' := by
  by_cases h : nthOk y m wd n = true
  · obtain ⟨h1, h2, h3, h4⟩ := nthOk_true h
    exact spec_nth_in y m wd n w h1 h2 h3 h4
  · exact spec_nth_out y m wd n w (by simpa using h)
end Go.Proofs.YtdflacnegkgljaaDoor
