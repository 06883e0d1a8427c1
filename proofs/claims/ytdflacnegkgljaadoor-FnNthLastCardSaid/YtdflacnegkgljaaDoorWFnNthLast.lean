/- The law FnNthLast returns true. -/
import Derived.Test.YtdflacnegkgljaaDoorNth2
import Derived.Test.YtdflacnegkgljaaDoorDrNth
import Derived.Test.YtdflacnegkgljaaDoorQt
namespace Go.Proofs.YtdflacnegkgljaaDoor
open Go.RowKit
attribute [local go_sem] lt_cell

theorem nthHas_parts {y m wd n : Int} (h : nthHas y m wd n = true) : mds y m ≠ 0 ∧ 1 ≤ wd ∧ wd ≤ 7 ∧ (n = -1 ∨ (1 ≤ n ∧ n ≤ 5)) ∧ nthDay y m wd n ≤ mds y m := by
  unfold nthHas at h
  simp only [Bool.and_eq_true, decide_eq_true_eq] at h
  obtain ⟨h1, h2, h3, h4⟩ := nthOk_true h.1
  exact ⟨h1, h2, h3, h4, h.2⟩
theorem nthDay_pos {y m wd n : Int} (h : n = -1 ∨ (1 ≤ n ∧ n ≤ 5)) (h1 : mds y m ≠ 0) : 1 ≤ nthDay y m wd n := by
  have := firstOf_bd y m wd
  have := mds_28 h1
  unfold nthDay
  split <;> omega
theorem nthHas_mk {y m wd n : Int} (h1 : mds y m ≠ 0) (h2 : 1 ≤ wd) (h3 : wd ≤ 7) (h4 : 1 ≤ n ∧ n ≤ 5) (h5 : nthDay y m wd n ≤ mds y m) : nthHas y m wd n = true := by
  unfold nthHas nthOk
  rw [inB_true h2 h3, inB_true h4.1 h4.2]
  simp [h1, h5]
theorem nthHas_no {y m wd n : Int} (h5 : mds y m < nthDay y m wd n) : nthHas y m wd n = false := by
  unfold nthHas
  simp
  intro _
  exact h5

theorem last_facts {y m wd n : Int} (h1 : mds y m ≠ 0) (h2 : 1 ≤ wd) (h3 : wd ≤ 7) :
    (n = -1 → nthDay y m wd n = firstOf y m wd + (mds y m - firstOf y m wd) / 7 * 7) ∧ nthDay y m wd 4 = firstOf y m wd + 21 ∧ nthDay y m wd 5 = firstOf y m wd + 28 ∧ nthHas y m wd 4 = true ∧
      (firstOf y m wd + 28 ≤ mds y m → nthHas y m wd 5 = true) ∧ (mds y m < firstOf y m wd + 28 → nthHas y m wd 5 = false) := by
  have hf := firstOf_bd y m wd
  have hm28 := mds_28 h1
  have e4 : nthDay y m wd 4 = firstOf y m wd + 21 := by unfold nthDay; rw [if_neg (by omega)]; omega
  have e5 : nthDay y m wd 5 = firstOf y m wd + 28 := by unfold nthDay; rw [if_neg (by omega)]; omega
  exact ⟨fun e => by unfold nthDay; rw [if_pos e], e4, e5, nthHas_mk h1 h2 h3 (by omega) (by omega), fun e => nthHas_mk h1 h2 h3 (by omega) (by omega), fun e => nthHas_no (by omega)⟩

theorem w_FnNthLast (w : World) (hM : MD w) (A : Option Addr) (len cap : Nat) (hs : Src w.heap.size w A len) (hc : len ≤ cap) (hm : cap ≤ maxLen) :
    Calls Tryd.prog 6 #[.slice A len cap] w fun e w' => e = .returned (.bool true) ∧ Below w.heap.size w w' := by
  unfold maxLen at hm
  by_cases hbig : 1048576 < len
  · go_enter Tryd.func6, Tryd.ntmps6
    go_wp2_with fail
    go_ret
    exact ⟨rfl, Below.refl _ _⟩
  · go_enter Tryd.func6, Tryd.ntmps6
    go_wp2_with fail
    refine (drawNth hs (Nat.le_refl _) hc hm).mono ?_
    rintro e w1 ⟨y, m, wd, n, rfl, hb1⟩
    by_cases h : nthHas y m wd n = true
    · have HV := hide (nthV_yes h)
      obtain ⟨h1, h2, h3, h4, h5⟩ := nthHas_parts h
      have hd := nthDay_pos (wd := wd) h4 h1
      have hmb := mds_bd y m
      have hf := firstOf_bd y m wd
      have hm28 := mds_28 h1
      obtain ⟨e1, e4, e5, k4, k5, k5'⟩ := last_facts (n := n) h1 h2 h3
      have V4 := hide (nthV_yes k4)
      have HE := hide (⟨e1, e4, e5, k5, k5'⟩ : _ ∧ _ ∧ _ ∧ _ ∧ _)
      clear e1 e4 e5 k4 k5 k5'
      clear h h1
      go_wp2_with fail
      refine (impl_nth _ _ _ _ _ (hM.below hb1)).mono ?_
      rintro e w2 ⟨rfl, hb2⟩
      rw [HV.out]
      have H2 := bto hb1 hb2
      go_wp2_with fail
      refine (spec_nth _ _ _ _ _).mono ?_
      rintro e w3 ⟨rfl, hb3⟩
      rw [HV.out]
      obtain ⟨hc3, hf3⟩ := bcell hb3
      have hz3 := bsz hb3
      have H3 := bto (bal H2 _) hb3
      by_cases hn : n = -1
      · obtain ⟨e1, e4, e5, k5, k5'⟩ := HE.out
        have e1' := e1 hn
        subst hn
        have hlast : mds y m < nthDay y m wd (-1) + 7 := by omega
        by_cases h28 : firstOf y m wd + 28 ≤ mds y m
        · have V5 := hide (nthV_yes (k5 h28))
          have E := hide (show nthDay y m wd 5 = nthDay y m wd (-1) by omega)
          clear e1 e1' e4 e5 k5 k5' h28 HE
          go_wp2_with fail
          refine (impl_nth _ _ _ _ _ ((hM.below H3).alloc _)).mono ?_
          rintro e w4 ⟨rfl, hb4⟩
          rw [V4.out]
          have hz4 := bsz hb4
          have H4 := bto (bal H3 _) hb4
          clear hc3 hf3
          go_wp2_with fail
          refine (impl_nth _ _ _ _ _ ((hM.below H4).alloc _)).mono ?_
          rintro e w5 ⟨rfl, hb5⟩
          rw [V5.out, E.out]
          have hz5 := bsz hb5
          have H5 := bto (bal H4 _) hb5
          have B2 : Blk w5 w2.heap.size 25 #[.int .i64 y, .int .i64 m, .int .i64 (nthDay y m wd (-1))] := (((((Blk.new w2 _ _).below hb3 (by simp)).alloc _).below hb4 (by simp; omega)).alloc _).below hb5 (by simp; omega)
          have B4 : Blk w5 w4.heap.size 25 #[.int .i64 y, .int .i64 m, .int .i64 (nthDay y m wd 4)] := (Blk.new w4 _ _).below hb5 (by simp)
          have c0 := B2.cell 0
          have c1 := B2.cell 1
          have c2 := B2.cell 2
          have d0 := B4.cell 0
          have d1 := B4.cell 1
          have d2 := B4.cell 2
          simp at c0 c1 c2 d0 d1 d2
          have n1 : w2.heap.size ≤ w5.heap.size := by omega
          have n2 : w4.heap.size ≤ w5.heap.size := by omega
          have n3 : w2.heap.size < w5.heap.size := by omega
          clear B2 B4
          go_wp2_with fail
          refine region_below (by kernel_rfl) (by kernel_rfl) ?_
          repeat (go_big_quiet_step ((go_at_call 22; exact lt_same (impl_mds _ _ _ (((hM.below H5).alloc _).below (Lt.h _))))))
          refine wpQuiet_nil ?_
          rintro _ ⟨⟨wq, hq⟩, rfl⟩
          go_wp2
          go_ret
          exact ⟨rfl, bto (bal H5 _) hq⟩
        · have V5 := hide (nthV_no (k5' (by omega)))
          have E := hide (show nthDay y m wd 4 = nthDay y m wd (-1) by omega)
          clear e1 e1' e4 e5 k5 k5' h28 HE
          rw [E.out] at V4
          go_wp2_with fail
          refine (impl_nth _ _ _ _ _ ((hM.below H3).alloc _)).mono ?_
          rintro e w4 ⟨rfl, hb4⟩
          rw [V4.out]
          have hz4 := bsz hb4
          have H4 := bto (bal H3 _) hb4
          clear hc3 hf3
          go_wp2_with fail
          refine (impl_nth _ _ _ _ _ ((hM.below H4).alloc _)).mono ?_
          rintro e w5 ⟨rfl, hb5⟩
          rw [V5.out]
          have hz5 := bsz hb5
          have H5 := bto (bal H4 _) hb5
          have B2 : Blk w5 w2.heap.size 25 #[.int .i64 y, .int .i64 m, .int .i64 (nthDay y m wd (-1))] := (((((Blk.new w2 _ _).below hb3 (by simp)).alloc _).below hb4 (by simp; omega)).alloc _).below hb5 (by simp; omega)
          have B4 : Blk w5 w4.heap.size 25 #[.int .i64 y, .int .i64 m, .int .i64 (nthDay y m wd (-1))] := (Blk.new w4 _ _).below hb5 (by simp)
          have c0 := B2.cell 0
          have c1 := B2.cell 1
          have c2 := B2.cell 2
          have d0 := B4.cell 0
          have d1 := B4.cell 1
          have d2 := B4.cell 2
          simp at c0 c1 c2 d0 d1 d2
          have n1 : w2.heap.size ≤ w5.heap.size := by omega
          have n2 : w4.heap.size ≤ w5.heap.size := by omega
          have n3 : w2.heap.size < w5.heap.size := by omega
          clear B2 B4
          go_wp2_with fail
          refine region_below (by kernel_rfl) (by kernel_rfl) ?_
          repeat (go_big_quiet_step ((go_at_call 22; exact lt_same (impl_mds _ _ _ (((hM.below H5).alloc _).below (Lt.h _))))))
          refine wpQuiet_nil ?_
          rintro _ ⟨⟨wq, hq⟩, rfl⟩
          go_wp2
          go_ret
          exact ⟨rfl, bto (bal H5 _) hq⟩
      · clear HE
        have g1 : (n != -1) = true := by simp [hn]
        go_wp2_with fail
        go_ret
        exact ⟨rfl, (by repeat' (first | (with_reducible exact Below.refl _ _) | (with_reducible assumption) | (with_reducible refine bal ?_ _) | (with_reducible refine bdrewN ?_ _) | (with_reducible refine bdrew ?_) | (with_reducible refine bset ?_ ?_ _) | omega | (simp; done) | (simp; omega)))⟩
    · have HV := hide (nthV_no (show nthHas y m wd n = false by simpa using h))
      clear h
      go_wp2_with fail
      refine (impl_nth _ _ _ _ _ (hM.below hb1)).mono ?_
      rintro e w2 ⟨rfl, hb2⟩
      rw [HV.out]
      have H2 := bto hb1 hb2
      go_wp2_with fail
      refine (spec_nth _ _ _ _ _).mono ?_
      rintro e w3 ⟨rfl, hb3⟩
      rw [HV.out]
      obtain ⟨hc3, hf3⟩ := bcell hb3
      have hz3 := bsz hb3
      have H3 := bto (bal H2 _) hb3
      go_wp2_with fail
      go_ret
      exact ⟨rfl, (by repeat' (first | (with_reducible exact Below.refl _ _) | (with_reducible assumption) | (with_reducible refine bal ?_ _) | (with_reducible refine bdrewN ?_ _) | (with_reducible refine bdrew ?_) | (with_reducible refine bset ?_ ?_ _) | omega | (simp; done) | (simp; omega)))⟩
end Go.Proofs.YtdflacnegkgljaaDoor
