/- Contracts of the laws' comparisons at equal values. -/
import Derived.Test.YtdflacnegkgljaaBase
namespace Go.Proofs.Ytdflacnegkgljaa
open Go.RowKit

theorem eqDate_same (y m d : Int) (w : World) :
    Calls Try.prog 7 #[.agg #[.int .i64 y, .int .i64 m, .int .i64 d], .agg #[.int .i64 y, .int .i64 m, .int .i64 d]] w fun e w' => e = .returned (.bool true) ∧ Below w.heap.size w w' := by
  go_enter Try.func7, Try.ntmps7
  go_wp2
  go_ret
  exact ⟨rfl, by go_grown⟩
end Go.Proofs.Ytdflacnegkgljaa
