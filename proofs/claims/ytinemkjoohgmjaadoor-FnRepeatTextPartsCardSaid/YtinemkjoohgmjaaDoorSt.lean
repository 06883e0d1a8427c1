/- Contracts: times of a day, stamps, instants (the program's and the reference's). -/
import Derived.Test.YtinemkjoohgmjaaDoorZn1
import Derived.Test.YtinemkjoohgmjaaDoorQt
import Derived.Test.YtinemkjoohgmjaaDoorDt5
import Derived.Test.YtinemkjoohgmjaaDoorStPl
namespace Go.Proofs.YtinemkjoohgmjaaDoor
open Go.RowKit
attribute [local go_sem] lt_cell

theorem l5Of_any (n : Int) (w : World) (h0 : 0 ≤ n) (h1 : n ≤ 315537984000000) :
    Calls Tryd.prog 67 #[.int .i64 n] w fun e w' => e = .returned (.agg #[.int .i64 (n / 3600000), .int .i64 (n / 60000 % 60), .int .i64 (n / 1000 % 60), .int .i64 (n % 1000)]) ∧ Below w.heap.size w w' := by
  go_enter Tryd.func67, Tryd.ntmps67
  go_wp2
  go_returns
  exact ⟨rfl, (by repeat' (first | (with_reducible exact Below.refl _ _) | (with_reducible assumption) | (with_reducible refine bal ?_ _) | (with_reducible refine bdrewN ?_ _) | (with_reducible refine bdrew ?_) | (with_reducible refine bset ?_ ?_ _) | (with_reducible refine brow ?_ ?_ _) | omega | (simp; done) | (simp; omega)))⟩
theorem impl_cv (h mi s ms : Int) (w : World) :
    Calls Tryd.prog 50 #[.agg #[.int .i64 h, .int .i64 mi, .int .i64 s, .int .i64 ms]] w (RetB (cvB h mi s ms) w) := by
  go_enter Tryd.func50, Tryd.ntmps50
  go_wp2_with (go_at_call 58; refine (within_any _ _ _ _).mono ?_; rintro e w' ⟨rfl, rfl⟩)
  all_goals
    go_ret
    refine ⟨ret_bool ?_, bal (Below.refl _ _) _⟩
    first | (simp [cvB, c24, c23, *]; done) | (subst_vars; simp [cvB, c24, c23, inB, *]; done) | (subst_vars; simp [cvB, c24, c23, inB, *]; omega)
theorem spec_cv (h mi s ms : Int) (w : World) :
    Calls Tryd.prog 73 #[.agg #[.int .i64 h, .int .i64 mi, .int .i64 s, .int .i64 ms]] w (RetB (cvB h mi s ms) w) := by
  by_cases hr : (0 ≤ h ∧ h ≤ 24) ∧ (0 ≤ mi ∧ mi ≤ 59) ∧ (0 ≤ s ∧ s ≤ 59) ∧ 0 ≤ ms ∧ ms ≤ 999
  · obtain ⟨a1, a2, a3, a4⟩ := hr
    have i1 := inB_true a1.1 a1.2
    have i2 := inB_true a2.1 a2.2
    have i3 := inB_true a3.1 a3.2
    have i4 := inB_true a4.1 a4.2
    by_cases h24 : h < 24
    · have HV := hide (show cvB h mi s ms = true from cvB_iff.2 (by omega))
      go_enter Tryd.func73, Tryd.ntmps73
      go_wp2_with (go_at_call 56; refine (l6In_any _ _ _ _).mono ?_; rintro e w' ⟨rfl, rfl⟩)
      go_ret
      exact ⟨by rw [HV.out]; rfl, bal (Below.refl _ _) _⟩
    · by_cases hz : mi + s + ms = 0
      · have HV := hide (show cvB h mi s ms = true from cvB_iff.2 (by omega))
        have g : (mi + s + ms == 0) = true := by simpa using hz
        clear hz
        go_enter Tryd.func73, Tryd.ntmps73
        go_wp2_with (go_at_call 56; refine (l6In_any _ _ _ _).mono ?_; rintro e w' ⟨rfl, rfl⟩)
        go_ret
        exact ⟨by rw [HV.out]; rfl, bal (Below.refl _ _) _⟩
      · have HV := hide (show cvB h mi s ms = false by cases e : cvB h mi s ms; rfl; have := cvB_iff.1 e; omega)
        have g : (mi + s + ms == 0) = false := beq_eq_false_iff_ne.2 hz
        clear hz
        go_enter Tryd.func73, Tryd.ntmps73
        go_wp2_with (go_at_call 56; refine (l6In_any _ _ _ _).mono ?_; rintro e w' ⟨rfl, rfl⟩)
        go_ret
        exact ⟨ret_bool (by rw [HV.out]; simp; omega), bal (Below.refl _ _) _⟩
  · have HV := hide (show cvB h mi s ms = false by cases e : cvB h mi s ms; rfl; have := cvB_iff.1 e; omega)
    have hb : inB h 0 24 = false ∨ (inB h 0 24 = true ∧ inB mi 0 59 = false) ∨ (inB h 0 24 = true ∧ inB mi 0 59 = true ∧ inB s 0 59 = false) ∨ (inB h 0 24 = true ∧ inB mi 0 59 = true ∧ inB s 0 59 = true ∧ inB ms 0 999 = false) := by
      simp only [inB_iff, inB_not]
      omega
    rcases hb with h1 | ⟨h1, h2⟩ | ⟨h1, h2, h3⟩ | ⟨h1, h2, h3, h4⟩
    all_goals
      go_enter Tryd.func73, Tryd.ntmps73
      go_wp2_with (go_at_call 56; refine (l6In_any _ _ _ _).mono ?_; rintro e w' ⟨rfl, rfl⟩)
      go_ret
      exact ⟨by rw [HV.out]; rfl, bal (Below.refl _ _) _⟩
theorem millis_any (h mi s ms : Int) (w : World) (hv : cvB h mi s ms = true) :
    Calls Tryd.prog 104 #[.agg #[.int .i64 h, .int .i64 mi, .int .i64 s, .int .i64 ms]] w fun e w' => e = .returned (.int .i64 (cms h mi s ms)) ∧ Below w.heap.size w w' := by
  have hb := cvB_bd hv
  clear hv
  unfold cms at *
  go_enter Tryd.func104, Tryd.ntmps104
  go_wp2
  go_ret
  exact ⟨rfl, bal (Below.refl _ _) _⟩
def cmV (h mi s ms : Int) : Int := if cvB h mi s ms then cms h mi s ms else -1
theorem spec_cm (h mi s ms : Int) (w : World) :
    Calls Tryd.prog 69 #[.agg #[.int .i64 h, .int .i64 mi, .int .i64 s, .int .i64 ms]] w fun e w' => e = .returned (.int .i64 (cmV h mi s ms)) ∧ Below w.heap.size w w' := by
  cases hv : cvB h mi s ms with
  | true =>
    have hb := cvB_bd hv
    have HV := hide (show 1000 * (60 * (60 * h + mi) + s) + ms = cmV h mi s ms by unfold cmV cms; rw [hv]; simp; omega)
    go_enter Tryd.func69, Tryd.ntmps69
    go_wp2_with fail
    refine (spec_cv _ _ _ _ _).mono ?_
    rintro e w1 ⟨rfl, hb1⟩
    obtain ⟨hc1, hf1⟩ := bcell hb1
    have hz1 := bsz hb1
    have H1 := bto (bal (Below.refl _ _) _) hb1
    unfold cms at hb
    go_wp2_with fail
    go_ret
    exact ⟨by rw [← HV.out]; rfl, H1⟩
  | false =>
    have HV := hide (show cmV h mi s ms = -1 by unfold cmV; rw [hv]; rfl)
    go_enter Tryd.func69, Tryd.ntmps69
    go_wp2_with fail
    refine (spec_cv _ _ _ _ _).mono ?_
    rintro e w1 ⟨rfl, hb1⟩
    go_wp2_with fail
    go_ret
    exact ⟨by rw [HV.out]; rfl, bto (bal (Below.refl _ _) _) hb1⟩

/-- A stamp, and whether there is one. -/
def RetS (r : S8 × Bool) (w : World) (e : Ending) (w' : World) : Prop := e = .returned (.tuple #[.agg r.1.v, .bool r.2]) ∧ Below w.heap.size w w'
theorem ins_iff' {x : Int} : insB x = true ↔ -86400000 ≤ x ∧ x ≤ 315537984000000 := inB_iff

end Go.Proofs.YtinemkjoohgmjaaDoor
