/- The law FnEaster returns true. -/
import Derived.Test.YtdflacnegkgljaaDoorDt5
import Derived.Test.YtdflacnegkgljaaDoorPl
import Derived.Test.YtdflacnegkgljaaDoorDrEa
namespace Go.Proofs.YtdflacnegkgljaaDoor
open Go.RowKit

theorem w_FnEaster (w : World) (hM : MD w) (A : Option Addr) (len cap : Nat) (hs : Src w.heap.size w A len) (hc : len ≤ cap) (hm : cap ≤ maxLen) :
    Calls Tryd.prog 3 #[.slice A len cap] w fun e w' => e = .returned (.bool true) ∧ Below w.heap.size w w' := by
  unfold maxLen at hm
  by_cases hbig : 1048576 < len
  · go_enter Tryd.func3, Tryd.ntmps3
    go_wp2_with fail
    go_ret
    exact ⟨rfl, Below.refl _ _⟩
  · go_enter Tryd.func3, Tryd.ntmps3
    go_wp2_with fail
    refine (drawEaster hs (Nat.le_refl _) hc hm).mono ?_
    rintro e w1 ⟨a0, hv0, hv1, rfl, hb1⟩
    by_cases h : inB a0 1583 9999 = true
    · obtain ⟨h1, h2⟩ := inB_iff.1 h
      clear h
      have hd := ea_dates a0
      have hv := hide (ea_vld a0 h1 h2)
      have hsun := ea_sunday a0 h1
      go_wp2_with fail
      refine (impl_easter_yes _ _ h1 h2).mono ?_
      rintro e w2 ⟨rfl, hb2⟩
      have H2 := bto hb1 hb2
      go_wp2_with fail
      refine (spec_easter_yes _ _ h1 h2).mono ?_
      rintro e w3 ⟨rfl, hb3⟩
      obtain ⟨hc3, hf3⟩ := bcell hb3
      have hz3 := bsz hb3
      have H3 := bto (bal H2 _) hb3
      go_wp2_with fail
      refine (impl_weekday _ _ _ _ ((hM.below H3).alloc _) hv.out).mono ?_
      rintro e w4 ⟨rfl, hb4⟩
      obtain ⟨hc4, hf4⟩ := bcell hb4
      have H4 := bto (bal H3 _) hb4
      rw [hsun]
      rcases hd with ⟨e1, e2, e3⟩ | ⟨e1, e2, e3⟩
      all_goals
        go_wp2_with fail
        go_ret
        exact ⟨rfl, H4⟩
    · replace h : inB a0 1583 9999 = false := by simpa using h
      go_wp2_with fail
      refine (impl_easter_no _ _ h).mono ?_
      rintro e w2 ⟨rfl, hb2⟩
      go_wp2_with fail
      refine (spec_easter_no _ _ h).mono ?_
      rintro e w3 ⟨rfl, hb3⟩
      obtain ⟨hc3, hf3⟩ := bcell hb3
      have hz3 := bsz hb3
      have H3 := bto (bal (bto hb1 hb2) _) hb3
      go_wp2_with fail
      go_ret
      exact ⟨rfl, (by repeat' (first | (with_reducible exact Below.refl _ _) | (with_reducible assumption) | (with_reducible refine bal ?_ _) | (with_reducible refine bdrewN ?_ _) | (with_reducible refine bdrew ?_) | (with_reducible refine bset ?_ ?_ _) | omega | (simp; done) | (simp; omega)))⟩
end Go.Proofs.YtdflacnegkgljaaDoor
