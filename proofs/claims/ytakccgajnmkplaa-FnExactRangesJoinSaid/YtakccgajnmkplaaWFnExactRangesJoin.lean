/- The law FnExactRangesJoin returns true. -/
import Derived.Test.YtakccgajnmkplaaDrJo
import Derived.Test.YtakccgajnmkplaaShellR
namespace Go.Proofs.Ytakccgajnmkplaa
open Go.RowKit

set_option maxRecDepth 100000 in
set_option maxHeartbeats 4000000 in
theorem w_FnExactRangesJoin (w : World) (A : Option Addr) (len cap : Nat) (l : List R2) (hl : l.length = len) (hPa : Prs w.heap.size w A l) (_hi : ∀ r ∈ l, I64 r.1 ∧ I64 r.2) (hc : len ≤ cap) (hm : cap ≤ maxLen) :
    Calls Try.prog 15 #[.slice A len cap] w fun e w' => e = .returned (.bool true) ∧ Below w.heap.size w w' := by
  subst hl
  unfold maxLen at hm
  by_cases hbig : (1048576 : Int) < l.length
  · go_enter Try.func15, Try.ntmps15
    go_wp2_with fail
    refine (sz_any l.length cap A _ _ (by omega) (by omega) (by omega)).mono ?_
    rintro e w1 ⟨rfl, rfl⟩
    rw [if_pos (by omega)]
    go_wp2_with fail
    go_ret
    exact ⟨rfl, Below.refl _ _⟩
  have h0 : (0 : Int) ≤ 1048576 - l.length := by omega
  go_enter Try.func15, Try.ntmps15
  go_wp2_with fail
  refine (sz_any l.length cap A _ _ (by omega) (by omega) (by omega)).mono ?_
  rintro e w1 ⟨rfl, rfl⟩
  rw [if_neg (by omega)]
  rcases joinOk_bool l with hj | hj
  · obtain ⟨hjj, hself, hrv, hlen⟩ := joinS_ok hj
    have HJ := hide hj
    clear hj hjj hself hrv
    go_wp2_with fail
    refine (toS_any l _ _ _ _ _ rfl (hPa.below (Below.refl w.heap.size w)) (Below.refl w.heap.size w).size (by omega)).mono ?_
    rintro e w1 ⟨g1, c1, rfl, ho1, hb1⟩
    have H1 := bto (Below.refl w.heap.size w) hb1
    have z1 := H1.size
    have y1 := hb1.size
    have T1 := Row.made ho1
    clear ho1
    go_wp2_with fail
    refine (spec_join l _ _ _ _ _ rfl T1.prs (Nat.le_refl _)).mono ?_
    rintro e w2 ⟨b2, c2, rfl, ho2, hb2⟩
    rw [HJ.out] at ho2 ⊢
    simp only [if_true] at ho2 ⊢
    have T1 := T1.below hb2
    have H2 := bto H1 hb2
    have z2 := H2.size
    have y2 := hb2.size
    have S0 := Row.made ho2
    clear ho2
    clear T1
    go_wp2_with fail
    refine (toS_any l _ _ _ _ _ rfl (hPa.below H2) H2.size (by omega)).mono ?_
    rintro e w3 ⟨g3, c3, rfl, ho3, hb3⟩
    have S0 := S0.below hb3
    have H3 := bto H2 hb3
    have z3 := H3.size
    have y3 := hb3.size
    have X0 := Row.made ho3
    clear ho3
    go_wp2_with fail
    refine (impl_join l _ _ _ _ _ rfl X0.prs (Nat.le_refl _) (by omega)).mono ?_
    rintro e w4 (⟨hf, -, -⟩ | ⟨-, g4, c4, rfl, ho4, hb4⟩)
    · rw [HJ.out] at hf; simp at hf
    have S0 := S0.below hb4
    have X0 := X0.below hb4
    have H4 := bto H3 hb4
    have z4 := H4.size
    have y4 := hb4.size
    have G0 := Row.made ho4
    clear ho4
    go_wp2_with fail
    refine (eqS_same (joinS l) _ _ _ _ _ _ _ rfl G0.prs S0.prs (Nat.le_refl _) (by omega)).mono ?_
    rintro e w5 ⟨rfl, hb5⟩
    have S0 := S0.below hb5
    have X0 := X0.below hb5
    have G0 := G0.below hb5
    have H5 := bto H4 hb5
    have z5 := H5.size
    have y5 := hb5.size
    go_wp2_with fail
    refine (toS_any l _ _ _ _ _ rfl (hPa.below H5) H5.size (by omega)).mono ?_
    rintro e w6 ⟨g6, c6, rfl, ho6, hb6⟩
    have S0 := S0.below hb6
    have X0 := X0.below hb6
    have G0 := G0.below hb6
    have H6 := bto H5 hb6
    have z6 := H6.size
    have y6 := hb6.size
    have T3 := Row.made ho6
    clear ho6
    go_wp2_with fail
    refine (eqS_same l _ _ _ _ _ _ _ rfl X0.prs T3.prs (Nat.le_refl _) (by omega)).mono ?_
    rintro e w7 ⟨rfl, hb7⟩
    have S0 := S0.below hb7
    have X0 := X0.below hb7
    have G0 := G0.below hb7
    have T3 := T3.below hb7
    have H7 := bto H6 hb7
    have z7 := H7.size
    have y7 := hb7.size
    clear T3
    go_wp2_with fail
    refine (mark_any _ _ _ _ _ _ _ _ X0 (by omega) (by omega) (by omega)).mono ?_
    rintro e w8 ⟨rfl, R8, O8⟩
    have H8 := O8.bel H7 (by omega)
    have z8 := H8.size
    have S0 := S0.far O8 (by omega)
    have G0 := G0.far O8 (by omega)
    have X0 := R8
    clear R8 O8
    go_wp2_with fail
    refine (eqS_same (joinS l) _ _ _ _ _ _ _ rfl G0.prs S0.prs (Nat.le_refl _) (by omega)).mono ?_
    rintro e w9 ⟨rfl, hb9⟩
    have S0 := S0.below hb9
    have X0 := X0.below hb9
    have G0 := G0.below hb9
    have H9 := bto H8 hb9
    have z9 := H9.size
    have y9 := hb9.size
    go_wp2_with fail
    refine (mark_any _ _ _ _ _ _ _ _ G0 (by omega) (by omega) (by omega)).mono ?_
    rintro e w10 ⟨rfl, R10, O10⟩
    have H10 := O10.bel H9 (by omega)
    have z10 := H10.size
    have S0 := S0.far O10 (by omega)
    have X0 := X0.far O10 (by omega)
    have G0 := R10
    clear R10 O10
    go_wp2_with fail
    refine (held_any _ _ _ _ _ _ G0.prs (by omega) (by omega) (by omega)).mono ?_
    rintro e wh10 ⟨rfl, rfl⟩
    go_wp2_with fail
    refine (toS_any l _ _ _ _ _ rfl (hPa.below H10) H10.size (by omega)).mono ?_
    rintro e w11 ⟨g11, c11, rfl, ho11, hb11⟩
    have S0 := S0.below hb11
    have X0 := X0.below hb11
    have G0 := G0.below hb11
    have H11 := bto H10 hb11
    have z11 := H11.size
    have y11 := hb11.size
    have T5 := Row.made ho11
    clear ho11
    go_wp2_with fail
    refine (impl_join l _ _ _ _ _ rfl T5.prs (Nat.le_refl _) (by omega)).mono ?_
    rintro e w12 (⟨hf, -, -⟩ | ⟨-, g12, c12, rfl, ho12, hb12⟩)
    · rw [HJ.out] at hf; simp at hf
    have S0 := S0.below hb12
    have X0 := X0.below hb12
    have G0 := G0.below hb12
    have T5 := T5.below hb12
    have H12 := bto H11 hb12
    have z12 := H12.size
    have y12 := hb12.size
    have Q0 := Row.made ho12
    clear ho12
    go_wp2_with fail
    refine (eqS_same (joinS l) _ _ _ _ _ _ _ rfl Q0.prs S0.prs (Nat.le_refl _) (by omega)).mono ?_
    rintro e w13 ⟨rfl, hb13⟩
    have S0 := S0.below hb13
    have X0 := X0.below hb13
    have G0 := G0.below hb13
    have T5 := T5.below hb13
    have Q0 := Q0.below hb13
    have H13 := bto H12 hb13
    have z13 := H13.size
    have y13 := hb13.size
    go_wp2_with fail
    refine (held_any _ _ _ _ _ _ G0.prs (by omega) (by omega) (by omega)).mono ?_
    rintro e wh13 ⟨rfl, rfl⟩
    go_wp2_with fail
    go_ret
    exact ⟨rfl, H13⟩
  · have HJ := hide hj
    clear hj
    go_wp2_with fail
    refine (toS_any l _ _ _ _ _ rfl (hPa.below (Below.refl w.heap.size w)) (Below.refl w.heap.size w).size (by omega)).mono ?_
    rintro e w1 ⟨g1, c1, rfl, ho1, hb1⟩
    have H1 := bto (Below.refl w.heap.size w) hb1
    have z1 := H1.size
    have y1 := hb1.size
    have T1 := Row.made ho1
    clear ho1
    go_wp2_with fail
    refine (spec_join l _ _ _ _ _ rfl T1.prs (Nat.le_refl _)).mono ?_
    rintro e w2 ⟨b2, c2, rfl, ho2, hb2⟩
    rw [HJ.out] at ho2 ⊢
    simp only [Bool.false_eq_true, if_false, List.length_nil] at ho2 ⊢
    have T1 := T1.below hb2
    have H2 := bto H1 hb2
    have z2 := H2.size
    have y2 := hb2.size
    have S0 := Row.made ho2
    clear ho2
    clear T1
    go_wp2_with fail
    refine (toS_any l _ _ _ _ _ rfl (hPa.below H2) H2.size (by omega)).mono ?_
    rintro e w3 ⟨g3, c3, rfl, ho3, hb3⟩
    have S0 := S0.below hb3
    have H3 := bto H2 hb3
    have z3 := H3.size
    have y3 := hb3.size
    have X0 := Row.made ho3
    clear ho3
    go_wp2_with fail
    refine (impl_join l _ _ _ _ _ rfl X0.prs (Nat.le_refl _) (by omega)).mono ?_
    rintro e w4 (⟨-, rfl, hb4⟩ | ⟨hf, -⟩)
    rotate_left
    · rw [HJ.out] at hf; simp at hf
    have S0 := S0.below hb4
    have X0 := X0.below hb4
    have H4 := bto H3 hb4
    have z4 := H4.size
    have y4 := hb4.size
    have G0 : Row w4 w3.heap.size w4.heap.size none 0 0 [] := Row.nil w4 w3
    go_wp2_with fail
    refine (eqS_same ([] : List R2) _ _ _ _ _ _ _ rfl G0.prs S0.prs (Nat.le_refl _) (by simp)).mono ?_
    rintro e w5 ⟨rfl, hb5⟩
    have S0 := S0.below hb5
    have X0 := X0.below hb5
    have G0 := G0.below hb5
    have H5 := bto H4 hb5
    have z5 := H5.size
    have y5 := hb5.size
    go_wp2_with fail
    refine (toS_any l _ _ _ _ _ rfl (hPa.below H5) H5.size (by omega)).mono ?_
    rintro e w6 ⟨g6, c6, rfl, ho6, hb6⟩
    have S0 := S0.below hb6
    have X0 := X0.below hb6
    have G0 := G0.below hb6
    have H6 := bto H5 hb6
    have z6 := H6.size
    have y6 := hb6.size
    have T3 := Row.made ho6
    clear ho6
    go_wp2_with fail
    refine (eqS_same l _ _ _ _ _ _ _ rfl X0.prs T3.prs (Nat.le_refl _) (by omega)).mono ?_
    rintro e w7 ⟨rfl, hb7⟩
    have S0 := S0.below hb7
    have X0 := X0.below hb7
    have G0 := G0.below hb7
    have T3 := T3.below hb7
    have H7 := bto H6 hb7
    have z7 := H7.size
    have y7 := hb7.size
    clear T3
    go_wp2_with fail
    refine (mark_any _ _ _ _ _ _ _ _ X0 (by omega) (by omega) (by omega)).mono ?_
    rintro e w8 ⟨rfl, R8, O8⟩
    have H8 := O8.bel H7 (by omega)
    have z8 := H8.size
    have S0 := S0.far O8 (by omega)
    have G0 := G0.far O8 (by omega)
    have X0 := R8
    clear R8 O8
    go_wp2_with fail
    refine (eqS_same ([] : List R2) _ _ _ _ _ _ _ rfl G0.prs S0.prs (Nat.le_refl _) (by simp)).mono ?_
    rintro e w9 ⟨rfl, hb9⟩
    have S0 := S0.below hb9
    have X0 := X0.below hb9
    have G0 := G0.below hb9
    have H9 := bto H8 hb9
    have z9 := H9.size
    have y9 := hb9.size
    go_wp2_with fail
    refine (mark_any _ _ _ _ _ _ _ _ G0 (by omega) (by omega) (by omega)).mono ?_
    rintro e w10 ⟨rfl, R10, O10⟩
    have H10 := O10.bel H9 (by omega)
    have z10 := H10.size
    have S0 := S0.far O10 (by omega)
    have X0 := X0.far O10 (by omega)
    have G0 := R10
    clear R10 O10
    go_wp2_with fail
    refine (held_any _ _ _ _ _ _ G0.prs (by omega) (by omega) (by omega)).mono ?_
    rintro e wh10 ⟨rfl, rfl⟩
    go_wp2_with fail
    refine (toS_any l _ _ _ _ _ rfl (hPa.below H10) H10.size (by omega)).mono ?_
    rintro e w11 ⟨g11, c11, rfl, ho11, hb11⟩
    have S0 := S0.below hb11
    have X0 := X0.below hb11
    have G0 := G0.below hb11
    have H11 := bto H10 hb11
    have z11 := H11.size
    have y11 := hb11.size
    have T5 := Row.made ho11
    clear ho11
    go_wp2_with fail
    refine (impl_join l _ _ _ _ _ rfl T5.prs (Nat.le_refl _) (by omega)).mono ?_
    rintro e w12 (⟨-, rfl, hb12⟩ | ⟨hf, -⟩)
    rotate_left
    · rw [HJ.out] at hf; simp at hf
    have S0 := S0.below hb12
    have X0 := X0.below hb12
    have G0 := G0.below hb12
    have T5 := T5.below hb12
    have H12 := bto H11 hb12
    have z12 := H12.size
    have y12 := hb12.size
    have Q0 : Row w12 w11.heap.size w12.heap.size none 0 0 [] := Row.nil w12 w11
    go_wp2_with fail
    refine (eqS_same ([] : List R2) _ _ _ _ _ _ _ rfl Q0.prs S0.prs (Nat.le_refl _) (by simp)).mono ?_
    rintro e w13 ⟨rfl, hb13⟩
    have S0 := S0.below hb13
    have X0 := X0.below hb13
    have G0 := G0.below hb13
    have T5 := T5.below hb13
    have Q0 := Q0.below hb13
    have H13 := bto H12 hb13
    have z13 := H13.size
    have y13 := hb13.size
    go_wp2_with fail
    refine (held_any _ _ _ _ _ _ G0.prs (by omega) (by omega) (by omega)).mono ?_
    rintro e wh13 ⟨rfl, rfl⟩
    go_wp2_with fail
    go_ret
    exact ⟨rfl, H13⟩
end Go.Proofs.Ytakccgajnmkplaa
