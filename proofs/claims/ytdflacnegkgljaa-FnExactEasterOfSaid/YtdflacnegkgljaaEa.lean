/- Contracts of EasterOf (the program's and the reference's), eqDate. -/
import Derived.Test.YtdflacnegkgljaaBase
namespace Go.Proofs.Ytdflacnegkgljaa
open Go.RowKit

def eaD (y : Int) : Int := (19 * (y % 19) + y / 100 - y / 100 / 4 - (y / 100 - (y / 100 + 8) / 25 + 1) / 3 + 15) % 30
def eaE (y : Int) : Int := (32 + 2 * (y / 100 % 4) + 2 * (y % 100 / 4) - eaD y - y % 4) % 7
def eaN (y : Int) : Int := eaD y + eaE y - 7 * ((y % 19 + 11 * eaD y + 22 * eaE y) / 451) + 114

theorem impl_easter_yes (year : Int) (w : World) (h1 : 1583 ≤ year) (h2 : year ≤ 9999) :
    Calls Try.prog 6 #[.int .i64 year] w fun e w' => e = .returned (.tuple #[.agg #[.int .i64 year, .int .i64 (eaN year / 31), .int .i64 (eaN year % 31 + 1)], .bool true]) ∧ Below w.heap.size w w' := by
  have h := inB_true h1 h2
  go_enter Try.func6, Try.ntmps6
  go_wp2_with (go_at_call 10; refine (within_any _ _ _ _).mono ?_; rintro e w' ⟨rfl, rfl⟩)
  go_returns
  exact ⟨rfl, by go_grown⟩
theorem spec_easter_yes (year : Int) (w : World) (h1 : 1583 ≤ year) (h2 : year ≤ 9999) :
    Calls Try.prog 5 #[.int .i64 year] w fun e w' => e = .returned (.tuple #[.agg #[.int .i64 year, .int .i64 (eaN year / 31), .int .i64 (eaN year % 31 + 1)], .bool true]) ∧ Below w.heap.size w w' := by
  have h := inB_true h1 h2
  go_enter Try.func5, Try.ntmps5
  go_wp2_with (go_at_call 9; refine (l6In_any _ _ _ _).mono ?_; rintro e w' ⟨rfl, rfl⟩)
  go_returns
  exact ⟨rfl, by go_grown⟩
theorem impl_easter_no (year : Int) (w : World) (h : inB year 1583 9999 = false) :
    Calls Try.prog 6 #[.int .i64 year] w fun e w' => e = .returned (.tuple #[.agg #[.int .i64 0, .int .i64 0, .int .i64 0], .bool false]) ∧ Below w.heap.size w w' := by
  go_enter Try.func6, Try.ntmps6
  go_wp2_with (go_at_call 10; refine (within_any _ _ _ _).mono ?_; rintro e w' ⟨rfl, rfl⟩)
  go_returns
  exact ⟨rfl, by go_grown⟩
theorem spec_easter_no (year : Int) (w : World) (h : inB year 1583 9999 = false) :
    Calls Try.prog 5 #[.int .i64 year] w fun e w' => e = .returned (.tuple #[.agg #[.int .i64 0, .int .i64 0, .int .i64 0], .bool false]) ∧ Below w.heap.size w w' := by
  go_enter Try.func5, Try.ntmps5
  go_wp2_with (go_at_call 9; refine (l6In_any _ _ _ _).mono ?_; rintro e w' ⟨rfl, rfl⟩)
  go_returns
  exact ⟨rfl, by go_grown⟩
end Go.Proofs.Ytdflacnegkgljaa
