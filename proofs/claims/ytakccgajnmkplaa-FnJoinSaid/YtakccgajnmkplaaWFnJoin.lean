/- The law FnJoin returns true. -/
import Derived.Test.YtakccgajnmkplaaDrJo
import Derived.Test.YtakccgajnmkplaaShellR
namespace Go.Proofs.Ytakccgajnmkplaa
open Go.RowKit

set_option maxRecDepth 100000 in
set_option maxHeartbeats 4000000 in
theorem w_FnJoin (w : World) (A : Option Addr) (len cap : Nat) (hs : Src w.heap.size w A len) (hc : len ≤ cap) (hm : cap ≤ maxLen) :
    Calls Try.prog 14 #[.slice A len cap] w fun e w' => e = .returned (.bool true) ∧ Below w.heap.size w w' := by
  have hm' := hm
  unfold maxLen at hm'
  by_cases hbig : 1048576 < len
  · go_enter Try.func14, Try.ntmps14
    go_wp2_with fail
    go_ret
    exact ⟨rfl, Below.refl _ _⟩
  · go_enter Try.func14, Try.ntmps14
    go_wp2_with fail
    refine (drawJoin hs (Nat.le_refl _) hc hm).mono ?_
    rintro e w1 ⟨b1, c1, l, rfl, ho1, hl9, hbd, hb1⟩
    have R1 := Row.made ho1
    have HBD := hide hbd
    clear ho1 hs hbd
    go_wp2_with fail
    refine (impl_join l _ _ _ _ _ rfl R1.prs (Nat.le_refl _) (by omega)).mono ?_
    rintro e w2 (⟨hj, rfl, hb2⟩ | ⟨hj, b2, c2, rfl, ho2, hb2⟩)
    · have G : Row w2 w1.heap.size w2.heap.size none 0 0 [] := Row.nil w2 w1
      have R1 := R1.below hb2
      have H2 := bto hb1 hb2
      clear HBD
      go_wp2_with fail
      refine (spec_join l _ _ _ _ _ rfl R1.prs (Nat.le_refl _)).mono ?_
      rintro e w3 ⟨b3, c3, rfl, ho3, hb3⟩
      rw [hj] at ho3 ⊢
      simp only [Bool.false_eq_true, if_false, List.length_nil] at ho3 ⊢
      have S := Row.made ho3
      have G := G.below hb3
      have H3 := bto H2 hb3
      clear ho3 R1 hj
      go_wp2_with fail
      refine (sameR_any [] _ _ _ _ _ _ _ rfl G.prs S.prs (Nat.le_refl _) (by simp)).mono ?_
      rintro e w4 ⟨rfl, hb4⟩
      have S := S.below hb4
      have G := G.below hb4
      have H4 := bto H3 hb4
      go_wp2_with fail
      refine (sameR_any [] _ _ _ _ _ _ _ rfl G.prs S.prs (Nat.le_refl _) (by simp)).mono ?_
      rintro e w5 ⟨rfl, hb5⟩
      go_wp2_with fail
      go_ret
      exact ⟨rfl, bto H4 hb5⟩
    · obtain ⟨hjj, hself, hrv, hlen⟩ := joinS_ok hj
      have HJJ := hide hjj
      have HSELF := hide hself
      have HRV := hide hrv
      have HJ := hide hj
      have G := Row.made ho2
      have R1 := R1.below hb2
      have H2 := bto hb1 hb2
      clear ho2 hjj hself hrv
      go_wp2_with fail
      refine (spec_join l _ _ _ _ _ rfl R1.prs (Nat.le_refl _)).mono ?_
      rintro e w3 ⟨b3, c3, rfl, ho3, hb3⟩
      rw [hj] at ho3 ⊢
      simp only [if_true] at ho3 ⊢
      have S := Row.made ho3
      have R1 := R1.below hb3
      have G := G.below hb3
      have H3 := bto H2 hb3
      clear ho3 hj
      go_wp2_with fail
      refine (sameR_any (joinS l) _ _ _ _ _ _ _ rfl G.prs S.prs (Nat.le_refl _) (by omega)).mono ?_
      rintro e w4 ⟨rfl, hb4⟩
      have R1 := R1.below hb4
      have G := G.below hb4
      have H4 := bto H3 hb4
      clear S
      go_wp2_with fail
      refine (impl_join (joinS l) _ _ _ _ _ rfl G.prs (Nat.le_refl _) (by omega)).mono ?_
      rintro e w5 (⟨hf, -, -⟩ | ⟨-, b5, c5, rfl, ho5, hb5⟩)
      · rw [HJJ.out] at hf; simp at hf
      · rw [HSELF.out] at ho5 ⊢
        have T := Row.made ho5
        have G := G.below hb5
        have H5 := bto H4 hb5
        clear ho5 R1
        go_wp2_with fail
        refine (impl_rv (joinS l) _ _ _ _ _ rfl G.prs (Nat.le_refl _)).mono ?_
        rintro e w6 ⟨rfl, hb6⟩
        rw [HRV.out]
        have T := T.below hb6
        have G := G.below hb6
        have H6 := bto H5 hb6
        go_wp2_with fail
        refine (sameR_any (joinS l) _ _ _ _ _ _ _ rfl T.prs G.prs (Nat.le_refl _) (by omega)).mono ?_
        rintro e w7 ⟨rfl, hb7⟩
        go_wp2_with fail
        go_ret
        exact ⟨rfl, bto H6 hb7⟩
end Go.Proofs.Ytakccgajnmkplaa
