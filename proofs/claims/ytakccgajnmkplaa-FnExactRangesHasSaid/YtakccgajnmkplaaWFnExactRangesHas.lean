/- The law FnExactRangesHas returns true. -/
import Derived.Test.YtakccgajnmkplaaRg5
import Derived.Test.YtakccgajnmkplaaRg4
import Derived.Test.YtakccgajnmkplaaShellR
namespace Go.Proofs.Ytakccgajnmkplaa
open Go.RowKit

theorem w_FnExactRangesHas (w : World) (A : Option Addr) (len cap : Nat) (l : List R2) (hl : l.length = len) (hP : Prs w.heap.size w A l) (_hi : ∀ r ∈ l, I64 r.1 ∧ I64 r.2) (hc : len ≤ cap) (hm : cap ≤ maxLen) (n : Int) (_hn : I64 n) :
    Calls Try.prog 5 #[.slice A len cap, .int .i64 n] w fun e w' => e = .returned (.bool true) ∧ Below w.heap.size w w' := by
  unfold maxLen at hm
  by_cases hbig : (1048576 : Int) < len
  · go_enter Try.func5, Try.ntmps5
    go_wp2_with fail
    refine (sz_any len cap A _ _ (by omega) (by omega) (by omega)).mono ?_
    rintro e w1 ⟨rfl, rfl⟩
    rw [if_pos (by omega)]
    go_wp2_with fail
    go_ret
    exact ⟨rfl, Below.refl _ _⟩
  · have h0 : (0 : Int) ≤ 1048576 - len := by omega
    go_enter Try.func5, Try.ntmps5
    go_wp2_with fail
    refine (sz_any len cap A _ _ (by omega) (by omega) (by omega)).mono ?_
    rintro e w1 ⟨rfl, rfl⟩
    rw [if_neg (by omega)]
    go_wp2_with fail
    refine (toS_any l len cap _ A _ hl hP (Nat.le_refl _) (by omega)).mono ?_
    rintro e w1 ⟨g1, cap1, rfl, ho1, hb1⟩
    have P1 := Prs.own ho1
    go_wp2_with fail
    refine (spec_has l _ _ _ _ _ _ hl P1 (Nat.le_refl _) (by omega)).mono ?_
    rintro e w2 ⟨rfl, hb2⟩
    have H2 := bto hb1 hb2
    have hs2 := H2.size
    go_wp2_with fail
    refine (toS_any l len cap _ A _ hl (hP.below H2) hs2 (by omega)).mono ?_
    rintro e w3 ⟨g3, cap3, rfl, ho3, hb3⟩
    have P3 := Prs.own ho3
    have H3 := bto H2 hb3
    go_wp2_with fail
    refine (impl_has l _ _ _ _ _ _ hl P3 (Nat.le_refl _) (by omega)).mono ?_
    rintro e w4 ⟨rfl, hb4⟩
    have H4 := bto H3 hb4
    have hs4 := H4.size
    go_wp2_with fail
    refine (toS_any l len cap _ A _ hl (hP.below H4) hs4 (by omega)).mono ?_
    rintro e w5 ⟨g5, cap5, rfl, ho5, hb5⟩
    have P5 := Prs.own ho5
    have hs5 := hb5.size
    have hs5' := hb4.size
    go_wp2_with fail
    refine (eqS_same l _ _ _ _ _ _ _ hl (((P3.below hb4).below (hb5.mono hb4.size)).more (by omega)) P5 (Nat.le_refl _) (by omega)).mono ?_
    rintro e w6 ⟨rfl, hb6⟩
    go_wp2_with fail
    go_ret
    exact ⟨rfl, bto (bto H4 hb5) hb6⟩
end Go.Proofs.Ytakccgajnmkplaa
