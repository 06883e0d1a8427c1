/- Contracts: instants, ranges, valid ranges (the program's and the reference's). -/
import Derived.Test.YtakccgajnmkplaaPr
namespace Go.Proofs.Ytakccgajnmkplaa
open Go.RowKit

theorem instantValid_any (n : Int) (w : World) :
    Calls Try.prog 58 #[.int .i64 n] w fun e w' => e = .returned (.bool (insB n)) ∧ w = w' := by
  go_enter Try.func58, Try.ntmps58
  go_wp2_with (go_at_call 71; refine (within_any _ _ _ _).mono ?_; rintro e w' ⟨rfl, rfl⟩)
  go_ret
  exact ⟨rfl, rfl⟩
theorem l12Ok_any (n : Int) (w : World) :
    Calls Try.prog 70 #[.int .i64 n] w fun e w' => e = .returned (.bool (insB n)) ∧ w = w' := by
  go_enter Try.func70, Try.ntmps70
  go_wp2_with (go_at_call 77; refine (l6In_any _ _ _ _).mono ?_; rintro e w' ⟨rfl, rfl⟩)
  go_ret
  exact ⟨rfl, rfl⟩

theorem rB_eq (a b : Int) : rB (a, b) = (insB a && insB b && decide (a < b)) := rfl
theorem rangeValid_any (a b : Int) (w : World) :
    Calls Try.prog 41 #[.agg #[.int .i64 a, .int .i64 b]] w fun e w' => e = .returned (.bool (rB (a, b))) ∧ Below w.heap.size w w' := by
  cases h1 : insB a with
  | false =>
    have HR := hide (show rB (a, b) = false by rw [rB_eq, h1]; rfl)
    go_enter Try.func41, Try.ntmps41
    go_wp2_with (go_at_call 58; refine (instantValid_any _ _).mono ?_; rintro e w' ⟨rfl, rfl⟩)
    go_ret
    exact ⟨by rw [HR.out]; rfl, bal (Below.refl _ _) _⟩
  | true =>
    cases h2 : insB b with
    | false =>
      have HR := hide (show rB (a, b) = false by rw [rB_eq, h1, h2]; rfl)
      go_enter Try.func41, Try.ntmps41
      go_wp2_with (go_at_call 58; refine (instantValid_any _ _).mono ?_; rintro e w' ⟨rfl, rfl⟩)
      go_ret
      exact ⟨by rw [HR.out]; rfl, bal (Below.refl _ _) _⟩
    | true =>
      have HR := hide (show rB (a, b) = decide (a < b) by rw [rB_eq, h1, h2]; rfl)
      go_enter Try.func41, Try.ntmps41
      go_wp2_with (go_at_call 58; refine (instantValid_any _ _).mono ?_; rintro e w' ⟨rfl, rfl⟩)
      go_ret
      exact ⟨by rw [HR.out]; rfl, bal (Below.refl _ _) _⟩
theorem l32Range_any (a b : Int) (w : World) :
    Calls Try.prog 56 #[.agg #[.int .i64 a, .int .i64 b]] w fun e w' => e = .returned (.bool (rB (a, b))) ∧ Below w.heap.size w w' := by
  cases h1 : insB a with
  | false =>
    have HR := hide (show rB (a, b) = false by rw [rB_eq, h1]; rfl)
    go_enter Try.func56, Try.ntmps56
    go_wp2_with (go_at_call 70; refine (l12Ok_any _ _).mono ?_; rintro e w' ⟨rfl, rfl⟩)
    go_ret
    exact ⟨by rw [HR.out]; rfl, bal (Below.refl _ _) _⟩
  | true =>
    cases h2 : insB b with
    | false =>
      have HR := hide (show rB (a, b) = false by rw [rB_eq, h1, h2]; rfl)
      go_enter Try.func56, Try.ntmps56
      go_wp2_with (go_at_call 70; refine (l12Ok_any _ _).mono ?_; rintro e w' ⟨rfl, rfl⟩)
      go_ret
      exact ⟨by rw [HR.out]; rfl, bal (Below.refl _ _) _⟩
    | true =>
      have HR := hide (show rB (a, b) = decide (a < b) by rw [rB_eq, h1, h2]; rfl)
      go_enter Try.func56, Try.ntmps56
      go_wp2_with (go_at_call 70; refine (l12Ok_any _ _).mono ?_; rintro e w' ⟨rfl, rfl⟩)
      go_ret
      exact ⟨by rw [HR.out]; rfl, bal (Below.refl _ _) _⟩

/-- A pair, read off a list. -/
theorem pair_ex (l : List R2) (k : Nat) : ∃ x y : Int, l.getD k (0, 0) = (x, y) := ⟨_, _, rfl⟩
theorem okAt_0 {l : List R2} {x y : Int} (h : l.getD 0 (0, 0) = (x, y)) : okAt l 0 = rB (x, y) := by
  unfold okAt; rw [h]; simp
theorem okAt_s {l : List R2} {k : Nat} {x y x' y' : Int} (hk : 0 < k) (h : l.getD k (0, 0) = (x, y)) (h' : l.getD (k - 1) (0, 0) = (x', y')) : okAt l k = (rB (x, y) && decide (y' < x)) := by
  unfold okAt; rw [h, h']
  have : (k == 0) = false := by simp; omega
  rw [this]; rfl
end Go.Proofs.Ytakccgajnmkplaa
