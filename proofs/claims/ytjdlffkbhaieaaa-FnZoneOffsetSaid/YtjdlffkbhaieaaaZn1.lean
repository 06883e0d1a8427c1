/- Contracts: instants, offsets. -/
import Derived.Test.YtjdlffkbhaieaaaPr
import Derived.Test.YtjdlffkbhaieaaaZnPl
namespace Go.Proofs.Ytjdlffkbhaieaaa
open Go.RowKit

theorem instantValid_any (n : Int) (w : World) :
    Calls Try.prog 22 #[.int .i64 n] w fun e w' => e = .returned (.bool (insB n)) ∧ w = w' := by
  go_enter Try.func22, Try.ntmps22
  go_wp2_with (go_at_call 31; refine (within_any _ _ _ _).mono ?_; rintro e w' ⟨rfl, rfl⟩)
  go_ret
  exact ⟨rfl, rfl⟩
theorem l12Ok_any (n : Int) (w : World) :
    Calls Try.prog 19 #[.int .i64 n] w fun e w' => e = .returned (.bool (insB n)) ∧ w = w' := by
  go_enter Try.func19, Try.ntmps19
  go_wp2_with (go_at_call 18; refine (l6In_any _ _ _ _).mono ?_; rintro e w' ⟨rfl, rfl⟩)
  go_ret
  exact ⟨rfl, rfl⟩

theorem offsetValid_any (n : Int) (w : World) :
    Calls Try.prog 21 #[.int .i64 n] w fun e w' => e = .returned (.bool (offB n)) ∧ w = w' := by
  go_enter Try.func21, Try.ntmps21
  go_wp2_with (go_at_call 31; refine (within_any _ _ _ _).mono ?_; rintro e w' ⟨rfl, rfl⟩)
  go_ret
  exact ⟨rfl, rfl⟩
theorem l6In_off (n : Int) (w : World) :
    Calls Try.prog 18 #[.int .i64 n, .int .i64 (-1439), .int .i64 1439] w fun e w' => e = .returned (.bool (offB n)) ∧ w = w' := l6In_any _ _ _ _
/-- A pair, read off a list. -/
theorem pair_ex (l : List R2) (k : Nat) : ∃ x y : Int, l.getD k (0, 0) = (x, y) := ⟨_, _, rfl⟩
end Go.Proofs.Ytjdlffkbhaieaaa
