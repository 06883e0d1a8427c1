/- Contracts: the statements' own copies of stamps. -/
import Derived.Test.YtjdlffkbhaieaaaDoorSw
import Derived.Test.YtjdlffkbhaieaaaDoorStPl
import Derived.Test.YtjdlffkbhaieaaaDoorQt
namespace Go.Proofs.YtjdlffkbhaieaaaDoor
open Go.RowKit

theorem toDate_any (y mo d : Int) (w : World) :
    Calls Tryd.prog 28 #[.agg #[.int .i64 y, .int .i64 mo, .int .i64 d]] w fun e w' => e = .returned (.agg #[.int .i64 y, .int .i64 mo, .int .i64 d]) ∧ Below w.heap.size w w' := by
  go_enter Tryd.func28, Tryd.ntmps28
  go_wp2
  go_returns
  exact ⟨rfl, by go_grown⟩
theorem toClock_any (h mi s ms : Int) (w : World) :
    Calls Tryd.prog 29 #[.agg #[.int .i64 h, .int .i64 mi, .int .i64 s, .int .i64 ms]] w fun e w' => e = .returned (.agg #[.int .i64 h, .int .i64 mi, .int .i64 s, .int .i64 ms]) ∧ Below w.heap.size w w' := by
  go_enter Tryd.func29, Tryd.ntmps29
  go_wp2
  go_returns
  exact ⟨rfl, by go_grown⟩
end Go.Proofs.YtjdlffkbhaieaaaDoor
