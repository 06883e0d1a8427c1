/- Contracts: years, months, dates, numbers of days (the program's and the reference's). -/
import Derived.Test.YtjdlffkbhaieaaaCal

namespace Go.Proofs.Ytjdlffkbhaieaaa
open Go.RowKit

theorem leap_no {y : Int} (h : ¬ (1 ≤ y ∧ y ≤ 9999)) : leapB y = false := by
  unfold leapB; rw [inB_not.2 h]; rfl
theorem leap_in {y : Int} (h1 : 1 ≤ y) (h2 : y ≤ 9999) : leapB y = (lp y == 1) := by
  unfold leapB; rw [inB_true h1 h2]; rfl

theorem spec_leap (y : Int) (w : World) :
    Calls Try.prog 39 #[.int .i64 y] w fun e w' => e = .returned (.bool (leapB y)) ∧ w = w' := by
  by_cases hy : 1 ≤ y ∧ y ≤ 9999
  · obtain ⟨h1, h2⟩ := hy
    have hyv := inB_true h1 h2
    rcases (show y % 4 ≠ 0 ∨ (y % 4 = 0 ∧ y % 100 ≠ 0) ∨ (y % 4 = 0 ∧ y % 100 = 0 ∧ y % 400 = 0) ∨ (y % 4 = 0 ∧ y % 100 = 0 ∧ y % 400 ≠ 0) by omega) with h | ⟨h, h'⟩ | ⟨h, h', h''⟩ | ⟨h, h', h''⟩
    · have HL := hide (show leapB y = false by rw [leap_in h1 h2]; simp [lp, h])
      have g4 : (y % 4 == 0) = false := by simpa using h
      clear h
      go_enter Try.func39, Try.ntmps39
      go_wp2_with (go_at_call 18; refine (l6In_any _ _ _ _).mono ?_; rintro e w' ⟨rfl, rfl⟩)
      go_ret
      exact ⟨by rw [HL.out]; rfl, rfl⟩
    · have HL := hide (show leapB y = true by rw [leap_in h1 h2]; simp [lp, h, h'])
      have g4 : (y % 4 == 0) = true := by simpa using h
      have g100 : (y % 100 != 0) = true := by simpa using h'
      clear h h'
      go_enter Try.func39, Try.ntmps39
      go_wp2_with (go_at_call 18; refine (l6In_any _ _ _ _).mono ?_; rintro e w' ⟨rfl, rfl⟩)
      go_ret
      exact ⟨by rw [HL.out]; rfl, rfl⟩
    · have HL := hide (show leapB y = true by rw [leap_in h1 h2]; simp [lp, h, h''])
      have g4 : (y % 4 == 0) = true := by simpa using h
      have g100 : (y % 100 != 0) = false := by simpa using h'
      have g400 : (y % 400 == 0) = true := by simpa using h''
      clear h h' h''
      go_enter Try.func39, Try.ntmps39
      go_wp2_with (go_at_call 18; refine (l6In_any _ _ _ _).mono ?_; rintro e w' ⟨rfl, rfl⟩)
      go_ret
      exact ⟨by rw [HL.out]; rfl, rfl⟩
    · have HL := hide (show leapB y = false by rw [leap_in h1 h2]; simp [lp, h', h''])
      have g4 : (y % 4 == 0) = true := by simpa using h
      have g100 : (y % 100 != 0) = false := by simpa using h'
      have g400 : (y % 400 == 0) = false := by simpa using h''
      clear h h' h''
      go_enter Try.func39, Try.ntmps39
      go_wp2_with (go_at_call 18; refine (l6In_any _ _ _ _).mono ?_; rintro e w' ⟨rfl, rfl⟩)
      go_ret
      exact ⟨by rw [HL.out]; rfl, rfl⟩
  · have hyv := inB_not.2 hy
    go_enter Try.func39, Try.ntmps39
    go_wp2_with (go_at_call 18; refine (l6In_any _ _ _ _).mono ?_; rintro e w' ⟨rfl, rfl⟩)
    go_ret
    exact ⟨by rw [leap_no hy]; rfl, rfl⟩
end Go.Proofs.Ytjdlffkbhaieaaa
