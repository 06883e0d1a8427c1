/- Contracts of EasterOf (the program's and the reference's), eqDate. -/
import Derived.Test.YtdflacnegkgljaaDoorBase
namespace Go.Proofs.YtdflacnegkgljaaDoor
open Go.RowKit

def eaD (y : Int) : Int := (19 * (y % 19) + y / 100 - y / 100 / 4 - (y / 100 - (y / 100 + 8) / 25 + 1) / 3 + 15) % 30
def eaE (y : Int) : Int := (32 + 2 * (y / 100 % 4) + 2 * (y % 100 / 4) - eaD y - y % 4) % 7
def eaN (y : Int) : Int := eaD y + eaE y - 7 * ((y % 19 + 11 * eaD y + 22 * eaE y) / 451) + 114

theorem impl_easter_yes (year : Int) (w : World) (h1 : 1583 ≤ year) (h2 : year ≤ 9999) :
    Calls Tryd.prog 15 #[.int .i64 year] w fun e w' => e = .returned (.tuple #[.agg #[.int .i64 year, .int .i64 (eaN year / 31), .int .i64 (eaN year % 31 + 1)], .bool true]) ∧ Below w.heap.size w w' := by
  have h := inB_true h1 h2
  go_enter Tryd.func15, Tryd.ntmps15
  go_wp2_with (go_at_call 37; refine (within_any _ _ _ _).mono ?_; rintro e w' ⟨rfl, rfl⟩)
  go_returns
  exact ⟨rfl, by go_grown⟩
theorem spec_easter_yes (year : Int) (w : World) (h1 : 1583 ≤ year) (h2 : year ≤ 9999) :
    Calls Tryd.prog 16 #[.int .i64 year] w fun e w' => e = .returned (.tuple #[.agg #[.int .i64 year, .int .i64 (eaN year / 31), .int .i64 (eaN year % 31 + 1)], .bool true]) ∧ Below w.heap.size w w' := by
  have h := inB_true h1 h2
  go_enter Tryd.func16, Tryd.ntmps16
  go_wp2_with (go_at_call 38; refine (l6In_any _ _ _ _).mono ?_; rintro e w' ⟨rfl, rfl⟩)
  go_returns
  exact ⟨rfl, by go_grown⟩
theorem impl_easter_no (year : Int) (w : World) (h : inB year 1583 9999 = false) :
    Calls Tryd.prog 15 #[.int .i64 year] w fun e w' => e = .returned (.tuple #[.agg #[.int .i64 0, .int .i64 0, .int .i64 0], .bool false]) ∧ Below w.heap.size w w' := by
  go_enter Tryd.func15, Tryd.ntmps15
  go_wp2_with (go_at_call 37; refine (within_any _ _ _ _).mono ?_; rintro e w' ⟨rfl, rfl⟩)
  go_returns
  exact ⟨rfl, by go_grown⟩
theorem spec_easter_no (year : Int) (w : World) (h : inB year 1583 9999 = false) :
    Calls Tryd.prog 16 #[.int .i64 year] w fun e w' => e = .returned (.tuple #[.agg #[.int .i64 0, .int .i64 0, .int .i64 0], .bool false]) ∧ Below w.heap.size w w' := by
  go_enter Tryd.func16, Tryd.ntmps16
  go_wp2_with (go_at_call 38; refine (l6In_any _ _ _ _).mono ?_; rintro e w' ⟨rfl, rfl⟩)
  go_returns
  exact ⟨rfl, by go_grown⟩
end Go.Proofs.YtdflacnegkgljaaDoor
