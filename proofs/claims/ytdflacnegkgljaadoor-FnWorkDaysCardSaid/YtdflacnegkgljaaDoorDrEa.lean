/- DrawEasterOf returns some number. -/
import Derived.Test.YtdflacnegkgljaaDoorRd
namespace Go.Proofs.YtdflacnegkgljaaDoor
open Go.RowKit

def SomeInt (lo hi : Int) (w : World) (e : Ending) (w' : World) : Prop := ∃ v : Int, lo ≤ v ∧ v ≤ hi ∧ e = .returned (.int .i64 v) ∧ Below w.heap.size w w'

theorem drawEaster {B len cap : Nat} {A : Option Addr} {w : World} (hs : Src B w A len) (hB : B ≤ w.heap.size) (hc : len ≤ cap) (hm : cap ≤ maxLen) :
    Calls Tryd.prog 14 #[.slice A len cap] w (SomeInt 0 100000 w) := by
  go_enter Tryd.func14, Tryd.ntmps14
  go_wp2_with fail
  refine (l6Open_any hs hB hc hm).mono ?_
  rintro e w1 ⟨g, rfl, hg, hr1, hb1⟩
  go_wp2_with fail
  refine (pick_any hr1 (by omega) (by omega)).mono ?_
  rintro e w2 ⟨v1, hv1, hv1', rfl, hr2, hg2⟩
  have hb2 := below_only hb1 hg2 hg hb1.size
  by_cases h0 : v1 = 0
  · subst h0
    go_wp2_with fail
    refine (pick_any (hr2.alloc _) (by omega) (by omega)).mono ?_
    rintro e w3 ⟨v3, hv3, hv3', rfl, hr3, hg3⟩
    have hb3 := below_only (hb2.alloc hb2.size _) hg3 hg (by simp; have := hb2.size; omega)
    have hbl := (Blk.new w2 3 #[Value.int .i64 1582, .int .i64 1583, .int .i64 9999, .int .i64 10000]).grown' hg3 (by have := hr2.lt; omega)
    have c0 := hbl.cell 0
    have c1 := hbl.cell 1
    have c2 := hbl.cell 2
    have c3 := hbl.cell 3
    simp at c0 c1 c2 c3
    have hv : v3 = 0 ∨ v3 = 1 ∨ v3 = 2 ∨ v3 = 3 := by omega
    rcases hv with rfl | rfl | rfl | rfl
    all_goals
      go_wp2_with fail
      go_ret
      exact ⟨_, by omega, by omega, rfl, hb3⟩
  · have h0' : (v1 == 0) = false := by simpa using h0
    go_wp2_with fail
    refine (pick_any hr2 (by omega) (by omega)).mono ?_
    rintro e w3 ⟨v3, hv3, hv3', rfl, hr3, hg3⟩
    have hb3 := below_only hb2 hg3 hg hb2.size
    go_wp2_with fail
    refine (pick_any hr3 (by omega) (by omega)).mono ?_
    rintro e w4 ⟨v4, hv4, hv4', rfl, hr4, hg4⟩
    have hb4 := below_only hb3 hg4 hg hb3.size
    have hm1 : 0 ≤ v3 * (1 + v4) := Int.mul_nonneg hv3 (by omega)
    have hm2 : v3 * (1 + v4) ≤ 250 * 8 := Int.mul_le_mul (by omega) (by omega) (by omega) (by omega)
    go_wp2_with fail
    go_ret
    exact ⟨_, by omega, by omega, rfl, hb4⟩
end Go.Proofs.YtdflacnegkgljaaDoor
