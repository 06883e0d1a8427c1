/- Contracts: instants, offsets. -/
import Derived.Test.YtinemkjoohgmjaaDoorPr
import Derived.Test.YtinemkjoohgmjaaDoorZnPl
namespace Go.Proofs.YtinemkjoohgmjaaDoor
open Go.RowKit

theorem l12Ok_any (n : Int) (w : World) :
    Calls Tryd.prog 65 #[.int .i64 n] w fun e w' => e = .returned (.bool (insB n)) ∧ w = w' := by
  go_enter Tryd.func65, Tryd.ntmps65
  go_wp2_with (go_at_call 56; refine (l6In_any _ _ _ _).mono ?_; rintro e w' ⟨rfl, rfl⟩)
  go_ret
  exact ⟨rfl, rfl⟩

theorem offsetValid_any (n : Int) (w : World) :
    Calls Tryd.prog 51 #[.int .i64 n] w fun e w' => e = .returned (.bool (offB n)) ∧ w = w' := by
  go_enter Tryd.func51, Tryd.ntmps51
  go_wp2_with (go_at_call 58; refine (within_any _ _ _ _).mono ?_; rintro e w' ⟨rfl, rfl⟩)
  go_ret
  exact ⟨rfl, rfl⟩
theorem l6In_off (n : Int) (w : World) :
    Calls Tryd.prog 56 #[.int .i64 n, .int .i64 (-1439), .int .i64 1439] w fun e w' => e = .returned (.bool (offB n)) ∧ w = w' := l6In_any _ _ _ _
/-- A pair, read off a list. -/
theorem pair_ex (l : List R2) (k : Nat) : ∃ x y : Int, l.getD k (0, 0) = (x, y) := ⟨_, _, rfl⟩
end Go.Proofs.YtinemkjoohgmjaaDoor
