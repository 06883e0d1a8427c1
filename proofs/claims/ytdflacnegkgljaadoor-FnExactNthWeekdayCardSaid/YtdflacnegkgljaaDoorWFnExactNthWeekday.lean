/- The law FnExactNthWeekday returns true. -/
import Derived.Test.YtdflacnegkgljaaDoorNth2
import Derived.Test.YtdflacnegkgljaaDoorEq
namespace Go.Proofs.YtdflacnegkgljaaDoor
open Go.RowKit

theorem w_FnExactNthWeekday (w : World) (hM : MD w) (y : Int) (_ : I64 y) (m : Int) (_ : I64 m) (wd : Int) (_ : I64 wd) (n : Int) (_ : I64 n) :
    Calls Tryd.prog 4 #[.int .i64 y, .int .i64 m, .int .i64 wd, .int .i64 n] w fun e w' => e = .returned (.bool true) ∧ Below w.heap.size w w' := by
  by_cases h : nthHas y m wd n = true
  · have HV := hide (nthV_yes h)
    clear h
    go_enter Tryd.func4, Tryd.ntmps4
    go_wp2_with fail
    refine (spec_nth _ _ _ _ _).mono ?_
    rintro e w1 ⟨rfl, hb1⟩
    rw [HV.out]
    go_wp2_with fail
    refine (impl_nth _ _ _ _ _ ((hM.below hb1).alloc _)).mono ?_
    rintro e w2 ⟨rfl, hb2⟩
    obtain ⟨hc2, hf2⟩ := bcell hb2
    have hz2 := bsz hb2
    have H2 := bto (bal hb1 _) hb2
    rw [HV.out]
    go_wp2_with fail
    refine (eqDate_same _ _ _ _).mono ?_
    rintro e w3 ⟨rfl, hb3⟩
    have H3 := bto (bal H2 _) hb3
    go_wp2_with fail
    go_ret
    exact ⟨rfl, H3⟩
  · have HV := hide (nthV_no (show nthHas y m wd n = false by simpa using h))
    clear h
    go_enter Tryd.func4, Tryd.ntmps4
    go_wp2_with fail
    refine (spec_nth _ _ _ _ _).mono ?_
    rintro e w1 ⟨rfl, hb1⟩
    rw [HV.out]
    go_wp2_with fail
    refine (impl_nth _ _ _ _ _ ((hM.below hb1).alloc _)).mono ?_
    rintro e w2 ⟨rfl, hb2⟩
    obtain ⟨hc2, hf2⟩ := bcell hb2
    have hz2 := bsz hb2
    have H2 := bto (bal hb1 _) hb2
    rw [HV.out]
    go_wp2_with fail
    refine (eqDate_same _ _ _ _).mono ?_
    rintro e w3 ⟨rfl, hb3⟩
    have H3 := bto (bal H2 _) hb3
    go_wp2_with fail
    go_ret
    exact ⟨rfl, H3⟩
end Go.Proofs.YtdflacnegkgljaaDoor
