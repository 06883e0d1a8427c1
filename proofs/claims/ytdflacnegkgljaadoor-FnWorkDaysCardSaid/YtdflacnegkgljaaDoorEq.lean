/- Contracts of the laws' comparisons at equal values. -/
import Derived.Test.YtdflacnegkgljaaDoorBase
namespace Go.Proofs.YtdflacnegkgljaaDoor
open Go.RowKit

theorem eqDate_same (y m d : Int) (w : World) :
    Calls Tryd.prog 20 #[.agg #[.int .i64 y, .int .i64 m, .int .i64 d], .agg #[.int .i64 y, .int .i64 m, .int .i64 d]] w fun e w' => e = .returned (.bool true) ∧ Below w.heap.size w w' := by
  go_enter Tryd.func20, Tryd.ntmps20
  go_wp2
  go_ret
  exact ⟨rfl, by go_grown⟩
end Go.Proofs.YtdflacnegkgljaaDoor
