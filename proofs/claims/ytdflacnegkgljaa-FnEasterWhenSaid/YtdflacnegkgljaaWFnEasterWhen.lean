/- The law FnEasterWhen returns true. -/
import Derived.Test.YtdflacnegkgljaaEa
import Derived.Test.YtdflacnegkgljaaDrEa
namespace Go.Proofs.Ytdflacnegkgljaa
open Go.RowKit

theorem w_FnEasterWhen (w : World) (A : Option Addr) (len cap : Nat) (hs : Src w.heap.size w A len) (hc : len ≤ cap) (hm : cap ≤ maxLen) :
    Calls Try.prog 4 #[.slice A len cap] w fun e w' => e = .returned (.bool true) ∧ Below w.heap.size w w' := by
  unfold maxLen at hm
  by_cases hbig : 1048576 < len
  · go_enter Try.func4, Try.ntmps4
    go_wp2_with fail
    go_ret
    exact ⟨rfl, Below.refl _ _⟩
  · go_enter Try.func4, Try.ntmps4
    go_wp2_with fail
    refine (drawEaster hs (Nat.le_refl _) hc hm).mono ?_
    rintro e w1 ⟨a0, hv0, hv1, rfl, hb1⟩
    by_cases h : inB a0 1583 9999 = true
    · obtain ⟨h1, h2⟩ := inB_iff.1 h
      clear h
      go_wp2_with fail
      refine (impl_easter_yes _ _ h1 h2).mono ?_
      rintro e w2 ⟨rfl, hb2⟩
      go_wp2_with fail
      refine (spec_easter_yes _ _ h1 h2).mono ?_
      rintro e w3 ⟨rfl, hb3⟩
      obtain ⟨hc3, hf3⟩ := bcell hb3
      have hz3 := bsz hb3
      have H3 := bto (bal (bto hb1 hb2) _) hb3
      go_wp2_with fail
      go_ret
      exact ⟨rfl, bal H3 _⟩
    · replace h : inB a0 1583 9999 = false := by simpa using h
      have hcase : a0 < 1583 ∨ 9999 < a0 := by have := inB_not.1 h; omega
      go_wp2_with fail
      refine (impl_easter_no _ _ h).mono ?_
      rintro e w2 ⟨rfl, hb2⟩
      go_wp2_with fail
      refine (spec_easter_no _ _ h).mono ?_
      rintro e w3 ⟨rfl, hb3⟩
      obtain ⟨hc3, hf3⟩ := bcell hb3
      have hz3 := bsz hb3
      have H3 := bto (bal (bto hb1 hb2) _) hb3
      rcases hcase with hcase | hcase
      all_goals
        go_wp2_with fail
        go_ret
        exact ⟨by first | rfl | exact ret_bool (by simp; omega), bal H3 _⟩
end Go.Proofs.Ytdflacnegkgljaa
