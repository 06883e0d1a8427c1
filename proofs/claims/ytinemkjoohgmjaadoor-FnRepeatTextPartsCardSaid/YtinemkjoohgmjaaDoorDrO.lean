/- Draws: an offset, a unit. -/
import Derived.Test.YtinemkjoohgmjaaDoorDr
namespace Go.Proofs.YtinemkjoohgmjaaDoor
open Go.RowKit

set_option maxHeartbeats 1000000 in
theorem l91Offset_any {B g m : Nat} {w : World} (hr : Rd B w g m) (hm : m ≤ 90000) :
    Calls Tryd.prog 42 #[.pointer (some ⟨g, 0, none⟩)] w (DrawnInt (-1440) 1440 B g m 2 w) := by
  have hgl := hr.lt
  go_enter Tryd.func42, Tryd.ntmps42
  go_wp2_with fail
  refine (pick_any hr (by omega) (by omega)).mono ?_
  rintro e w1 ⟨v1, a1, b1, rfl, hr1, hg1⟩
  have hgl1 := hr1.lt
  by_cases h0 : v1 = 0
  · subst h0
    go_wp2_with fail
    refine (pick_any (hr1.alloc _) (by omega) (by omega)).mono ?_
    rintro e w2 ⟨v2, a2, b2, rfl, hr2, hg2⟩
    have hbl := (Blk.new w1 3 #[Value.int .i64 (-1440), .int .i64 (-1439), .int .i64 1439, .int .i64 1440, .int .i64 1, .int .i64 (-1)]).grown' hg2 (by omega)
    have c0 := hbl.cell 0
    have c1 := hbl.cell 1
    have c2 := hbl.cell 2
    have c3 := hbl.cell 3
    have c4 := hbl.cell 4
    have c5 := hbl.cell 5
    simp at c0 c1 c2 c3 c4 c5
    have hv : v2 = 0 ∨ v2 = 1 ∨ v2 = 2 ∨ v2 = 3 ∨ v2 = 4 ∨ v2 = 5 := by omega
    have G2 := only_trans (only_alloc hg1 _) hg2
    rcases hv with rfl | rfl | rfl | rfl | rfl | rfl
    all_goals
      go_wp2_with fail
      go_ret
      exact ⟨_, by omega, by omega, rfl, hr2, G2⟩
  · have g0 : (v1 == 0) = false := beq_eq_false_iff_ne.2 h0
    by_cases h1 : v1 = 1
    · subst h1
      go_wp2_with fail
      go_ret
      exact ⟨_, by omega, by omega, rfl, hr1.more (by omega), hg1⟩
    · have g1 : (v1 == 1) = false := beq_eq_false_iff_ne.2 h1
      by_cases h2 : v1 = 2
      · subst h2
        go_wp2_with fail
        go_ret
        exact ⟨_, by omega, by omega, rfl, hr1.more (by omega), hg1⟩
      · have g2 : (v1 == 2) = false := beq_eq_false_iff_ne.2 h2
        go_wp2_with fail
        refine (pick_any hr1 (by omega) (by omega)).mono ?_
        rintro e w2 ⟨v2, a2, b2, rfl, hr2, hg2⟩
        go_wp2_with fail
        go_ret
        exact ⟨_, by omega, by omega, rfl, hr2, only_trans hg1 hg2⟩
end Go.Proofs.YtinemkjoohgmjaaDoor
