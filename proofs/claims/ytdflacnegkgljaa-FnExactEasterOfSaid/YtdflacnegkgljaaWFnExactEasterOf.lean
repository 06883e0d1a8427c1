/- The law FnExactEasterOf returns true. -/
import Derived.Test.YtdflacnegkgljaaEa
import Derived.Test.YtdflacnegkgljaaEq
namespace Go.Proofs.Ytdflacnegkgljaa
open Go.RowKit

theorem w_FnExactEasterOf (w : World) (a0 : Int) (_ : I64 a0) :
    Calls Try.prog 3 #[.int .i64 a0] w fun e w' => e = .returned (.bool true) ∧ Below w.heap.size w w' := by
  by_cases h : inB a0 1583 9999 = true
  · obtain ⟨h1, h2⟩ := inB_iff.1 h
    clear h
    go_enter Try.func3, Try.ntmps3
    go_wp2_with fail
    refine (spec_easter_yes _ _ h1 h2).mono ?_
    rintro e w1 ⟨rfl, hb1⟩
    go_wp2_with fail
    refine (impl_easter_yes _ _ h1 h2).mono ?_
    rintro e w2 ⟨rfl, hb2⟩
    obtain ⟨hc2, hf2⟩ := bcell hb2
    have hz2 : w1.heap.size < w2.heap.size := by have := hb2.size; simp at this; omega
    go_wp2_with fail
    refine (eqDate_same _ _ _ _).mono ?_
    rintro e w3 ⟨rfl, hb3⟩
    go_wp2_with fail
    go_ret
    refine ⟨rfl, ?_⟩
    have s1 := hb1.size
    have s2 := hb2.size
    simp at s2
    refine (((hb1.alloc s1 _).trans (hb2.mono (by simp; omega))).alloc (by omega) _).trans (hb3.mono (by simp; omega))
  · replace h : inB a0 1583 9999 = false := by simpa using h
    go_enter Try.func3, Try.ntmps3
    go_wp2_with fail
    refine (spec_easter_no _ _ h).mono ?_
    rintro e w1 ⟨rfl, hb1⟩
    go_wp2_with fail
    refine (impl_easter_no _ _ h).mono ?_
    rintro e w2 ⟨rfl, hb2⟩
    obtain ⟨hc2, hf2⟩ := bcell hb2
    have hz2 : w1.heap.size < w2.heap.size := by have := hb2.size; simp at this; omega
    go_wp2_with fail
    refine (eqDate_same _ _ _ _).mono ?_
    rintro e w3 ⟨rfl, hb3⟩
    go_wp2_with fail
    go_ret
    refine ⟨rfl, ?_⟩
    have s1 := hb1.size
    have s2 := hb2.size
    simp at s2
    refine (((hb1.alloc s1 _).trans (hb2.mono (by simp; omega))).alloc (by omega) _).trans (hb3.mono (by simp; omega))
end Go.Proofs.Ytdflacnegkgljaa
