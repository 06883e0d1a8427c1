/- Contracts: valid repeats (the program's and the reference's). -/
import Derived.Test.YtinemkjoohgmjaaDoorRp
namespace Go.Proofs.YtinemkjoohgmjaaDoor
open Go.RowKit
attribute [local go_sem] lt_cell

theorem l15Parts_any (p1 p2 p3 p4 p5 p6 : Int) (w : World) :
    Calls Tryd.prog 57 #[.agg #[.int .i64 p1, .int .i64 p2, .int .i64 p3, .int .i64 p4, .int .i64 p5, .int .i64 p6]] w fun e w' => e = .returned (.slice (some ⟨w.heap.size + 1, 0, none⟩) 6 6) ∧ Blk w' (w.heap.size + 1) 3 #[.int .i64 p1, .int .i64 p2, .int .i64 p3, .int .i64 p4, .int .i64 p5, .int .i64 p6] ∧ Below w.heap.size w w' := by
  go_enter Tryd.func57, Tryd.ntmps57
  go_wp2
  go_ret
  exact ⟨by simp, Blk.newE (by simp), (by repeat' (first | (with_reducible exact Below.refl _ _) | (with_reducible assumption) | (with_reducible refine bal ?_ _) | (with_reducible refine bdrewN ?_ _) | (with_reducible refine bdrew ?_) | (with_reducible refine bset ?_ ?_ _) | (with_reducible refine brow ?_ ?_ _) | omega | (simp; done) | (simp; omega)))⟩
set_option maxRecDepth 100000 in
set_option maxHeartbeats 4000000 in
theorem spec_pv (p1 p2 p3 p4 p5 p6 : Int) (w : World) :
    Calls Tryd.prog 55 #[.agg #[.int .i64 p1, .int .i64 p2, .int .i64 p3, .int .i64 p4, .int .i64 p5, .int .i64 p6]] w (RetB (pvB p1 p2 p3 p4 p5 p6) w) := by
  have B0 := bal (Below.refl w.heap.size w) (.cells #[.int .i64 p1, .int .i64 p2, .int .i64 p3, .int .i64 p4, .int .i64 p5, .int .i64 p6] 44)
  go_enter Tryd.func55, Tryd.ntmps55
  go_wp2_with fail
  refine (l15Parts_any _ _ _ _ _ _ _).mono ?_
  rintro e w1 ⟨rfl, hp1, hb1⟩
  have B1 := bto B0 hb1
  have c0 := hp1.cell 0
  have c1 := hp1.cell 1
  have c2 := hp1.cell 2
  have c3 := hp1.cell 3
  have c4 := hp1.cell 4
  have c5 := hp1.cell 5
  simp at c0 c1 c2 c3 c4 c5
  clear B0 hb1 hp1
  go_wp2_with fail
  refine wp_loop_rounds 7 ?_
  rw [rounds_succ]
  cases h1 : inB p1 0 9999 with
  | false =>
    go_wp2_with (go_at_call 56; refine (l6In_any _ _ _ _).mono ?_; rintro e w' ⟨rfl, rfl⟩)
    go_ret
    exact ⟨ret_bool (by simp [pvB, *]), B1⟩
  | true =>
    go_wp2_with (go_at_call 56; refine (l6In_any _ _ _ _).mono ?_; rintro e w' ⟨rfl, rfl⟩)
    rw [rounds_succ]
    cases h2 : inB p2 0 9999 with
    | false =>
      go_wp2_with (go_at_call 56; refine (l6In_any _ _ _ _).mono ?_; rintro e w' ⟨rfl, rfl⟩)
      go_ret
      exact ⟨ret_bool (by simp [pvB, *]), B1⟩
    | true =>
      go_wp2_with (go_at_call 56; refine (l6In_any _ _ _ _).mono ?_; rintro e w' ⟨rfl, rfl⟩)
      rw [rounds_succ]
      cases h3 : inB p3 0 9999 with
      | false =>
        go_wp2_with (go_at_call 56; refine (l6In_any _ _ _ _).mono ?_; rintro e w' ⟨rfl, rfl⟩)
        go_ret
        exact ⟨ret_bool (by simp [pvB, *]), B1⟩
      | true =>
        go_wp2_with (go_at_call 56; refine (l6In_any _ _ _ _).mono ?_; rintro e w' ⟨rfl, rfl⟩)
        rw [rounds_succ]
        cases h4 : inB p4 0 9999 with
        | false =>
          go_wp2_with (go_at_call 56; refine (l6In_any _ _ _ _).mono ?_; rintro e w' ⟨rfl, rfl⟩)
          go_ret
          exact ⟨ret_bool (by simp [pvB, *]), B1⟩
        | true =>
          go_wp2_with (go_at_call 56; refine (l6In_any _ _ _ _).mono ?_; rintro e w' ⟨rfl, rfl⟩)
          rw [rounds_succ]
          cases h5 : inB p5 0 9999 with
          | false =>
            go_wp2_with (go_at_call 56; refine (l6In_any _ _ _ _).mono ?_; rintro e w' ⟨rfl, rfl⟩)
            go_ret
            exact ⟨ret_bool (by simp [pvB, *]), B1⟩
          | true =>
            go_wp2_with (go_at_call 56; refine (l6In_any _ _ _ _).mono ?_; rintro e w' ⟨rfl, rfl⟩)
            rw [rounds_succ]
            cases h6 : inB p6 0 9999 with
            | false =>
              go_wp2_with (go_at_call 56; refine (l6In_any _ _ _ _).mono ?_; rintro e w' ⟨rfl, rfl⟩)
              go_ret
              exact ⟨ret_bool (by simp [pvB, *]), B1⟩
            | true =>
              go_wp2_with (go_at_call 56; refine (l6In_any _ _ _ _).mono ?_; rintro e w' ⟨rfl, rfl⟩)
              rw [rounds_succ]
              go_wp2_with fail
              go_ret
              exact ⟨ret_bool (by simp [pvB, *]), B1⟩
/-- A repeat is valid. -/
def rpB (x : S8) (p1 p2 p3 p4 p5 p6 n : Int) : Bool := x.ok && (pvB p1 p2 p3 p4 p5 p6 && (decide (1 ≤ p1 + p2 + p3 + p4 + p5 + p6) && ((inB p1 0 99 && (inB p2 0 99 && (inB p3 0 99 && (inB p4 0 99 && (inB p5 0 99 && inB p6 0 99))))) && inB n 0 99)))
theorem pvB_iff {p1 p2 p3 p4 p5 p6 : Int} : pvB p1 p2 p3 p4 p5 p6 = true ↔ (0 ≤ p1 ∧ p1 ≤ 9999) ∧ (0 ≤ p2 ∧ p2 ≤ 9999) ∧ (0 ≤ p3 ∧ p3 ≤ 9999) ∧ (0 ≤ p4 ∧ p4 ≤ 9999) ∧ (0 ≤ p5 ∧ p5 ≤ 9999) ∧ 0 ≤ p6 ∧ p6 ≤ 9999 := by
  unfold pvB
  simp only [Bool.and_eq_true, inB_iff]
theorem max_in {p1 p2 p3 p4 p5 p6 M : Int} (hp : pvB p1 p2 p3 p4 p5 p6 = true) (hM : IsMax p1 p2 p3 p4 p5 p6 M) : inB M 1 99 = (decide (1 ≤ p1 + p2 + p3 + p4 + p5 + p6) && (inB p1 0 99 && (inB p2 0 99 && (inB p3 0 99 && (inB p4 0 99 && (inB p5 0 99 && inB p6 0 99)))))) := by
  obtain ⟨a1, a2, a3, a4, a5, a6⟩ := pvB_iff.1 hp
  unfold IsMax at hM
  obtain ⟨m1, m2, m3, m4, m5, m6, m7⟩ := hM
  rw [Bool.eq_iff_iff]
  simp only [Bool.and_eq_true, inB_iff, decide_eq_true_eq]
  omega
set_option maxRecDepth 100000 in
set_option maxHeartbeats 4000000 in
theorem impl_rv (y mo d h mi s ms o p1 p2 p3 p4 p5 p6 n : Int) (w : World) (hM : MD w) :
    Calls Tryd.prog 30 #[.agg #[.int .i64 y, .int .i64 mo, .int .i64 d, .int .i64 h, .int .i64 mi, .int .i64 s, .int .i64 ms, .int .i64 o, .int .i64 p1, .int .i64 p2, .int .i64 p3, .int .i64 p4, .int .i64 p5, .int .i64 p6, .int .i64 n]] w (RetB (rpB ⟨y, mo, d, h, mi, s, ms, o⟩ p1 p2 p3 p4 p5 p6 n) w) := by
  have X0 := Blk.new w 46 #[.int .i64 y, .int .i64 mo, .int .i64 d, .int .i64 h, .int .i64 mi, .int .i64 s, .int .i64 ms, .int .i64 o, .int .i64 p1, .int .i64 p2, .int .i64 p3, .int .i64 p4, .int .i64 p5, .int .i64 p6, .int .i64 n]
  have B0 := bal (Below.refl w.heap.size w) (.cells #[.int .i64 y, .int .i64 mo, .int .i64 d, .int .i64 h, .int .i64 mi, .int .i64 s, .int .i64 ms, .int .i64 o, .int .i64 p1, .int .i64 p2, .int .i64 p3, .int .i64 p4, .int .i64 p5, .int .i64 p6, .int .i64 n] 46)
  go_enter Tryd.func30, Tryd.ntmps30
  go_wp2_with fail
  refine (impl_sv ⟨y, mo, d, h, mi, s, ms, o⟩ _ (hM.alloc _)).mono ?_
  rintro e w1 ⟨rfl, hb1⟩
  have B1 := bto B0 hb1
  have X1 := hide (X0.below hb1 X0.lt)
  have c8 := X1.out.cell 8
  have c9 := X1.out.cell 9
  have c10 := X1.out.cell 10
  have c11 := X1.out.cell 11
  have c12 := X1.out.cell 12
  have c13 := X1.out.cell 13
  have c14 := X1.out.cell 14
  simp at c8 c9 c10 c11 c12 c13 c14
  cases hx : S8.ok ⟨y, mo, d, h, mi, s, ms, o⟩ with
  | false =>
    have HR := hide (show rpB ⟨y, mo, d, h, mi, s, ms, o⟩ p1 p2 p3 p4 p5 p6 n = false by unfold rpB; rw [hx]; rfl)
    go_wp2_with fail
    go_ret
    exact ⟨by rw [HR.out]; rfl, B1⟩
  | true =>
    have Hx := hide hx
    go_wp2_with fail
    refine (impl_pv _ _ _ _ _ _ _).mono ?_
    rintro e w2 ⟨rfl, hb2⟩
    have B2 := bto B1 hb2
    have X2 := hide (X1.out.below hb2 X1.out.lt)
    clear c8 c9 c10 c11 c12 c13 c14 hx
    have c8 := X2.out.cell 8
    have c9 := X2.out.cell 9
    have c10 := X2.out.cell 10
    have c11 := X2.out.cell 11
    have c12 := X2.out.cell 12
    have c13 := X2.out.cell 13
    have c14 := X2.out.cell 14
    simp at c8 c9 c10 c11 c12 c13 c14
    cases hp : pvB p1 p2 p3 p4 p5 p6 with
    | false =>
      have HR := hide (show rpB ⟨y, mo, d, h, mi, s, ms, o⟩ p1 p2 p3 p4 p5 p6 n = false by unfold rpB; rw [hp]; simp)
      go_wp2_with fail
      go_ret
      exact ⟨by rw [HR.out]; rfl, B2⟩
    | true =>
      have Hp := hide hp
      go_wp2_with fail
      refine (most_any _ _ _ _ _ _ _).mono ?_
      rintro e w3 ⟨⟨M, rfl, hM3⟩, hb3⟩
      have B3 := bto B2 hb3
      have X3 := hide (X2.out.below hb3 X2.out.lt)
      have Hmx := hide (max_in Hp.out hM3.out)
      clear c8 c9 c10 c11 c12 c13 c14 hp
      have c14 := X3.out.cell 14
      simp at c14
      cases hq : inB M 1 99 with
      | false =>
        have HR := hide (show rpB ⟨y, mo, d, h, mi, s, ms, o⟩ p1 p2 p3 p4 p5 p6 n = false by
          unfold rpB
          rw [Hx.out, Hp.out, ← Bool.and_assoc (decide _), ← Hmx.out, hq]
          rfl)
        go_wp2_with (go_at_call 58; refine (within_any _ _ _ _).mono ?_; rintro e w' ⟨rfl, rfl⟩)
        go_ret
        exact ⟨by rw [HR.out]; rfl, B3⟩
      | true =>
        have HR := hide (show rpB ⟨y, mo, d, h, mi, s, ms, o⟩ p1 p2 p3 p4 p5 p6 n = inB n 0 99 by
          unfold rpB
          rw [Hx.out, Hp.out, ← Bool.and_assoc (decide _), ← Hmx.out, hq]
          rfl)
        go_wp2_with (go_at_call 58; refine (within_any _ _ _ _).mono ?_; rintro e w' ⟨rfl, rfl⟩)
        go_ret
        exact ⟨by rw [HR.out]; rfl, B3⟩
set_option maxRecDepth 100000 in
set_option maxHeartbeats 4000000 in
theorem spec_rv (y mo d h mi s ms o p1 p2 p3 p4 p5 p6 n : Int) (w : World) :
    Calls Tryd.prog 26 #[.agg #[.int .i64 y, .int .i64 mo, .int .i64 d, .int .i64 h, .int .i64 mi, .int .i64 s, .int .i64 ms, .int .i64 o, .int .i64 p1, .int .i64 p2, .int .i64 p3, .int .i64 p4, .int .i64 p5, .int .i64 p6, .int .i64 n]] w (RetB (rpB ⟨y, mo, d, h, mi, s, ms, o⟩ p1 p2 p3 p4 p5 p6 n) w) := by
  have X0 := Blk.new w 46 #[.int .i64 y, .int .i64 mo, .int .i64 d, .int .i64 h, .int .i64 mi, .int .i64 s, .int .i64 ms, .int .i64 o, .int .i64 p1, .int .i64 p2, .int .i64 p3, .int .i64 p4, .int .i64 p5, .int .i64 p6, .int .i64 n]
  have B0 := bal (Below.refl w.heap.size w) (.cells #[.int .i64 y, .int .i64 mo, .int .i64 d, .int .i64 h, .int .i64 mi, .int .i64 s, .int .i64 ms, .int .i64 o, .int .i64 p1, .int .i64 p2, .int .i64 p3, .int .i64 p4, .int .i64 p5, .int .i64 p6, .int .i64 n] 46)
  go_enter Tryd.func26, Tryd.ntmps26
  go_wp2_with fail
  refine (spec_sv ⟨y, mo, d, h, mi, s, ms, o⟩ _).mono ?_
  rintro e w1 ⟨rfl, hb1⟩
  have B1 := bto B0 hb1
  have X1 := hide (X0.below hb1 X0.lt)
  have c8 := X1.out.cell 8
  have c9 := X1.out.cell 9
  have c10 := X1.out.cell 10
  have c11 := X1.out.cell 11
  have c12 := X1.out.cell 12
  have c13 := X1.out.cell 13
  have c14 := X1.out.cell 14
  simp at c8 c9 c10 c11 c12 c13 c14
  cases hx : S8.ok ⟨y, mo, d, h, mi, s, ms, o⟩ with
  | false =>
    have HR := hide (show rpB ⟨y, mo, d, h, mi, s, ms, o⟩ p1 p2 p3 p4 p5 p6 n = false by unfold rpB; rw [hx]; rfl)
    go_wp2_with fail
    go_ret
    exact ⟨by rw [HR.out]; rfl, B1⟩
  | true =>
    have Hx := hide hx
    go_wp2_with fail
    refine (spec_pv _ _ _ _ _ _ _).mono ?_
    rintro e w2 ⟨rfl, hb2⟩
    have B2 := bto B1 hb2
    have X2 := hide (X1.out.below hb2 X1.out.lt)
    clear c8 c9 c10 c11 c12 c13 c14 hx
    have c8 := X2.out.cell 8
    have c9 := X2.out.cell 9
    have c10 := X2.out.cell 10
    have c11 := X2.out.cell 11
    have c12 := X2.out.cell 12
    have c13 := X2.out.cell 13
    have c14 := X2.out.cell 14
    simp at c8 c9 c10 c11 c12 c13 c14
    cases hp : pvB p1 p2 p3 p4 p5 p6 with
    | false =>
      have HR := hide (show rpB ⟨y, mo, d, h, mi, s, ms, o⟩ p1 p2 p3 p4 p5 p6 n = false by unfold rpB; rw [hp]; simp)
      go_wp2_with fail
      go_ret
      exact ⟨by rw [HR.out]; rfl, B2⟩
    | true =>
      have Hp := hide hp
      cases hn : inB n 0 99 with
      | false =>
        have HR := hide (show rpB ⟨y, mo, d, h, mi, s, ms, o⟩ p1 p2 p3 p4 p5 p6 n = false by unfold rpB; rw [hn]; simp)
        clear hp
        go_wp2_with (go_at_call 56; refine (l6In_any _ _ _ _).mono ?_; rintro e w' ⟨rfl, rfl⟩)
        go_ret
        exact ⟨by rw [HR.out]; rfl, B2⟩
      | true =>
        have Hn := hide hn
        clear hp
        go_wp2_with (go_at_call 56; refine (l6In_any _ _ _ _).mono ?_; rintro e w' ⟨rfl, rfl⟩)
        refine (l15Parts_any _ _ _ _ _ _ _).mono ?_
        rintro e w3 ⟨rfl, hp3, hb3⟩
        have B3 := bto B2 hb3
        have a0 := hp3.cell 0
        have a1 := hp3.cell 1
        have a2 := hp3.cell 2
        have a3 := hp3.cell 3
        have a4 := hp3.cell 4
        have a5 := hp3.cell 5
        simp at a0 a1 a2 a3 a4 a5
        obtain ⟨b1, b2, b3, b4, b5, b6⟩ := pvB_iff.1 Hp.out
        have HB3 := hide B3
        clear c8 c9 c10 c11 c12 c13 c14 hp3 hb3 hn B3
        go_wp2_with fail
        refine wp_loop_rounds 7 ?_
        rw [rounds_succ]
        by_cases g1 : 99 < p1
        · have HR := hide (show rpB ⟨y, mo, d, h, mi, s, ms, o⟩ p1 p2 p3 p4 p5 p6 n = false by unfold rpB; rw [show inB p1 0 99 = false from inB_high g1]; simp)
          go_wp2_with fail
          go_ret
          exact ⟨by rw [HR.out]; rfl, HB3.out⟩
        have q1 : ¬ 99 < p1 := g1
        go_wp2_with fail
        rw [rounds_succ]
        by_cases g2 : 99 < p2
        · have HR := hide (show rpB ⟨y, mo, d, h, mi, s, ms, o⟩ p1 p2 p3 p4 p5 p6 n = false by unfold rpB; rw [show inB p2 0 99 = false from inB_high g2]; simp)
          go_wp2_with fail
          go_ret
          exact ⟨by rw [HR.out]; rfl, HB3.out⟩
        have q2 : ¬ 99 < p2 := g2
        go_wp2_with fail
        rw [rounds_succ]
        by_cases g3 : 99 < p3
        · have HR := hide (show rpB ⟨y, mo, d, h, mi, s, ms, o⟩ p1 p2 p3 p4 p5 p6 n = false by unfold rpB; rw [show inB p3 0 99 = false from inB_high g3]; simp)
          go_wp2_with fail
          go_ret
          exact ⟨by rw [HR.out]; rfl, HB3.out⟩
        have q3 : ¬ 99 < p3 := g3
        go_wp2_with fail
        rw [rounds_succ]
        by_cases g4 : 99 < p4
        · have HR := hide (show rpB ⟨y, mo, d, h, mi, s, ms, o⟩ p1 p2 p3 p4 p5 p6 n = false by unfold rpB; rw [show inB p4 0 99 = false from inB_high g4]; simp)
          go_wp2_with fail
          go_ret
          exact ⟨by rw [HR.out]; rfl, HB3.out⟩
        have q4 : ¬ 99 < p4 := g4
        go_wp2_with fail
        rw [rounds_succ]
        by_cases g5 : 99 < p5
        · have HR := hide (show rpB ⟨y, mo, d, h, mi, s, ms, o⟩ p1 p2 p3 p4 p5 p6 n = false by unfold rpB; rw [show inB p5 0 99 = false from inB_high g5]; simp)
          go_wp2_with fail
          go_ret
          exact ⟨by rw [HR.out]; rfl, HB3.out⟩
        have q5 : ¬ 99 < p5 := g5
        go_wp2_with fail
        rw [rounds_succ]
        by_cases g6 : 99 < p6
        · have HR := hide (show rpB ⟨y, mo, d, h, mi, s, ms, o⟩ p1 p2 p3 p4 p5 p6 n = false by unfold rpB; rw [show inB p6 0 99 = false from inB_high g6]; simp)
          go_wp2_with fail
          go_ret
          exact ⟨by rw [HR.out]; rfl, HB3.out⟩
        have q6 : ¬ 99 < p6 := g6
        go_wp2_with fail
        rw [rounds_succ]
        have HR := hide (show rpB ⟨y, mo, d, h, mi, s, ms, o⟩ p1 p2 p3 p4 p5 p6 n = decide (0 < p1 + p2 + p3 + p4 + p5 + p6) by
          unfold rpB
          rw [Hx.out, Hp.out, Hn.out, inB_true b1.1 (by omega), inB_true b2.1 (by omega), inB_true b3.1 (by omega), inB_true b4.1 (by omega), inB_true b5.1 (by omega), inB_true b6.1 (by omega)]
          simp
          omega)
        go_wp2_with fail
        go_ret
        exact ⟨ret_bool (by rw [HR.out]; try (first | rfl | (simp; done) | (congr 1; omega))), HB3.out⟩
end Go.Proofs.YtinemkjoohgmjaaDoor
