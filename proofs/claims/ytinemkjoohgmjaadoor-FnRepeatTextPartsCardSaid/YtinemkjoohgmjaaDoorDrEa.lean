/- DrawEasterOf returns some number. -/
import Derived.Test.YtinemkjoohgmjaaDoorRd
namespace Go.Proofs.YtinemkjoohgmjaaDoor
open Go.RowKit

def SomeInt (lo hi : Int) (w : World) (e : Ending) (w' : World) : Prop := ∃ v : Int, lo ≤ v ∧ v ≤ hi ∧ e = .returned (.int .i64 v) ∧ Below w.heap.size w w'

end Go.Proofs.YtinemkjoohgmjaaDoor
