/- The law FnExactRangesMeet returns true. -/
import Derived.Test.YtakccgajnmkplaaMk
import Derived.Test.YtakccgajnmkplaaShellR
namespace Go.Proofs.Ytakccgajnmkplaa
open Go.RowKit

theorem meetV_len (a b : List R2) : (meetV a b).length ≤ 64 := by
  unfold meetV
  split
  · rename_i h
    simp only [Bool.and_eq_true] at h
    have h1 := (rvB_in h.1).1
    have h2 := (rvB_in h.2).1
    have := meetS_len b h2 a
    omega
  · simp

set_option maxRecDepth 100000 in
set_option maxHeartbeats 2000000 in
theorem w_FnExactRangesMeet (w : World) (A : Option Addr) (len cap : Nat) (a : List R2) (hl : a.length = len) (hPa : Prs w.heap.size w A a) (_hi : ∀ r ∈ a, I64 r.1 ∧ I64 r.2) (hc : len ≤ cap) (hm : cap ≤ maxLen)
    (A' : Option Addr) (len' cap' : Nat) (b : List R2) (hl' : b.length = len') (hPb : Prs w.heap.size w A' b) (_hi' : ∀ r ∈ b, I64 r.1 ∧ I64 r.2) (hc' : len' ≤ cap') (hm' : cap' ≤ maxLen) :
    Calls Try.prog 9 #[.slice A len cap, .slice A' len' cap'] w fun e w' => e = .returned (.bool true) ∧ Below w.heap.size w w' := by
  subst hl
  subst hl'
  unfold maxLen at hm hm'
  by_cases hbig : (1048576 : Int) < a.length
  · go_enter Try.func9, Try.ntmps9
    go_wp2_with fail
    refine (sz_any a.length cap A _ _ (by omega) (by omega) (by omega)).mono ?_
    rintro e w1 ⟨rfl, rfl⟩
    rw [if_pos (by omega)]
    go_wp2_with fail
    go_ret
    exact ⟨rfl, Below.refl _ _⟩
  by_cases hbig' : (1048576 : Int) - a.length < b.length
  · have h0 : (0 : Int) ≤ 1048576 - a.length := by omega
    go_enter Try.func9, Try.ntmps9
    go_wp2_with fail
    refine (sz_any a.length cap A _ _ (by omega) (by omega) (by omega)).mono ?_
    rintro e w1 ⟨rfl, rfl⟩
    rw [if_neg (by omega)]
    go_wp2_with fail
    refine (sz_any b.length cap' A' _ _ (by omega) (by omega) (by omega)).mono ?_
    rintro e w1 ⟨rfl, rfl⟩
    rw [if_pos (by omega)]
    go_wp2_with fail
    go_ret
    exact ⟨rfl, Below.refl _ _⟩
  · have h0 : (0 : Int) ≤ 1048576 - a.length := by omega
    have h1 : (0 : Int) ≤ 1048576 - a.length - b.length := by omega
    have hV := meetV_len a b
    go_enter Try.func9, Try.ntmps9
    go_wp2_with fail
    refine (sz_any a.length cap A _ _ (by omega) (by omega) (by omega)).mono ?_
    rintro e w1 ⟨rfl, rfl⟩
    rw [if_neg (by omega)]
    go_wp2_with fail
    refine (sz_any b.length cap' A' _ _ (by omega) (by omega) (by omega)).mono ?_
    rintro e w1 ⟨rfl, rfl⟩
    rw [if_neg (by omega)]
    go_wp2_with fail
    refine (toS_any a _ _ _ _ _ rfl (hPa.below (Below.refl w.heap.size w)) (Below.refl w.heap.size w).size (by omega)).mono ?_
    rintro e w1 ⟨g1, c1, rfl, ho1, hb1⟩
    have H1 := bto (Below.refl w.heap.size w) hb1
    have z1 := H1.size
    have y1 := hb1.size
    have T1 := Row.made ho1
    clear ho1
    go_wp2_with fail
    refine (toS_any b _ _ _ _ _ rfl (hPb.below H1) H1.size (by omega)).mono ?_
    rintro e w2 ⟨g2, c2, rfl, ho2, hb2⟩
    have T1 := T1.below hb2
    have H2 := bto H1 hb2
    have z2 := H2.size
    have y2 := hb2.size
    have T2 := Row.made ho2
    clear ho2
    go_wp2_with fail
    refine (spec_meet a b _ _ _ _ _ _ T1.prs T2.prs (Nat.le_refl _) (by omega) (by omega)).mono ?_
    rintro e w3 ⟨A3, c3, rfl, ho3, hb3⟩
    have T1 := T1.below hb3
    have T2 := T2.below hb3
    have H3 := bto H2 hb3
    have z3 := H3.size
    have y3 := hb3.size
    have S0 := Row.made ho3
    clear ho3
    clear T1
    clear T2
    go_wp2_with fail
    refine (toS_any a _ _ _ _ _ rfl (hPa.below H3) H3.size (by omega)).mono ?_
    rintro e w4 ⟨g4, c4, rfl, ho4, hb4⟩
    have S0 := S0.below hb4
    have H4 := bto H3 hb4
    have z4 := H4.size
    have y4 := hb4.size
    have X0 := Row.made ho4
    clear ho4
    go_wp2_with fail
    refine (toS_any b _ _ _ _ _ rfl (hPb.below H4) H4.size (by omega)).mono ?_
    rintro e w5 ⟨g5, c5, rfl, ho5, hb5⟩
    have S0 := S0.below hb5
    have X0 := X0.below hb5
    have H5 := bto H4 hb5
    have z5 := H5.size
    have y5 := hb5.size
    have X1 := Row.made ho5
    clear ho5
    go_wp2_with fail
    refine (impl_meet a b _ _ _ _ _ _ X0.prs X1.prs (Nat.le_refl _)).mono ?_
    rintro e w6 ⟨A6, c6, rfl, ho6, hb6⟩
    have S0 := S0.below hb6
    have X0 := X0.below hb6
    have X1 := X1.below hb6
    have H6 := bto H5 hb6
    have z6 := H6.size
    have y6 := hb6.size
    have G0 := Row.made ho6
    clear ho6
    go_wp2_with fail
    refine (eqS_same (meetV a b) _ _ _ _ _ _ _ rfl G0.prs S0.prs (Nat.le_refl _) (by omega)).mono ?_
    rintro e w7 ⟨rfl, hb7⟩
    have S0 := S0.below hb7
    have X0 := X0.below hb7
    have X1 := X1.below hb7
    have G0 := G0.below hb7
    have H7 := bto H6 hb7
    have z7 := H7.size
    have y7 := hb7.size
    go_wp2_with fail
    refine (toS_any a _ _ _ _ _ rfl (hPa.below H7) H7.size (by omega)).mono ?_
    rintro e w8 ⟨g8, c8, rfl, ho8, hb8⟩
    have S0 := S0.below hb8
    have X0 := X0.below hb8
    have X1 := X1.below hb8
    have G0 := G0.below hb8
    have H8 := bto H7 hb8
    have z8 := H8.size
    have y8 := hb8.size
    have T3 := Row.made ho8
    clear ho8
    go_wp2_with fail
    refine (eqS_same a _ _ _ _ _ _ _ rfl X0.prs T3.prs (Nat.le_refl _) (by omega)).mono ?_
    rintro e w9 ⟨rfl, hb9⟩
    have S0 := S0.below hb9
    have X0 := X0.below hb9
    have X1 := X1.below hb9
    have G0 := G0.below hb9
    have T3 := T3.below hb9
    have H9 := bto H8 hb9
    have z9 := H9.size
    have y9 := hb9.size
    clear T3
    go_wp2_with fail
    refine (toS_any b _ _ _ _ _ rfl (hPb.below H9) H9.size (by omega)).mono ?_
    rintro e w10 ⟨g10, c10, rfl, ho10, hb10⟩
    have S0 := S0.below hb10
    have X0 := X0.below hb10
    have X1 := X1.below hb10
    have G0 := G0.below hb10
    have H10 := bto H9 hb10
    have z10 := H10.size
    have y10 := hb10.size
    have T4 := Row.made ho10
    clear ho10
    go_wp2_with fail
    refine (eqS_same b _ _ _ _ _ _ _ rfl X1.prs T4.prs (Nat.le_refl _) (by omega)).mono ?_
    rintro e w11 ⟨rfl, hb11⟩
    have S0 := S0.below hb11
    have X0 := X0.below hb11
    have X1 := X1.below hb11
    have G0 := G0.below hb11
    have T4 := T4.below hb11
    have H11 := bto H10 hb11
    have z11 := H11.size
    have y11 := hb11.size
    clear T4
    go_wp2_with fail
    refine (mark_any _ _ _ _ _ _ _ _ X0 (by omega) (by omega) (by omega)).mono ?_
    rintro e w12 ⟨rfl, R12, O12⟩
    have H12 := O12.bel H11 (by omega)
    have z12 := H12.size
    have S0 := S0.far O12 (by omega)
    have X1 := X1.far O12 (by omega)
    have G0 := G0.far O12 (by omega)
    have X0 := R12
    clear R12 O12
    go_wp2_with fail
    refine (mark_any _ _ _ _ _ _ _ _ X1 (by omega) (by omega) (by omega)).mono ?_
    rintro e w13 ⟨rfl, R13, O13⟩
    have H13 := O13.bel H12 (by omega)
    have z13 := H13.size
    have S0 := S0.far O13 (by omega)
    have X0 := X0.far O13 (by omega)
    have G0 := G0.far O13 (by omega)
    have X1 := R13
    clear R13 O13
    go_wp2_with fail
    refine (eqS_same (meetV a b) _ _ _ _ _ _ _ rfl G0.prs S0.prs (Nat.le_refl _) (by omega)).mono ?_
    rintro e w14 ⟨rfl, hb14⟩
    have S0 := S0.below hb14
    have X0 := X0.below hb14
    have X1 := X1.below hb14
    have G0 := G0.below hb14
    have H14 := bto H13 hb14
    have z14 := H14.size
    have y14 := hb14.size
    go_wp2_with fail
    refine (mark_any _ _ _ _ _ _ _ _ G0 (by omega) (by omega) (by omega)).mono ?_
    rintro e w15 ⟨rfl, R15, O15⟩
    have H15 := O15.bel H14 (by omega)
    have z15 := H15.size
    have S0 := S0.far O15 (by omega)
    have X0 := X0.far O15 (by omega)
    have X1 := X1.far O15 (by omega)
    have G0 := R15
    clear R15 O15
    go_wp2_with fail
    refine (held_any _ _ _ _ _ _ G0.prs (by omega) (by omega) (by omega)).mono ?_
    rintro e w15h ⟨rfl, rfl⟩
    go_wp2_with fail
    refine (toS_any a _ _ _ _ _ rfl (hPa.below H15) H15.size (by omega)).mono ?_
    rintro e w16 ⟨g16, c16, rfl, ho16, hb16⟩
    have S0 := S0.below hb16
    have X0 := X0.below hb16
    have X1 := X1.below hb16
    have G0 := G0.below hb16
    have H16 := bto H15 hb16
    have z16 := H16.size
    have y16 := hb16.size
    have T5 := Row.made ho16
    clear ho16
    go_wp2_with fail
    refine (toS_any b _ _ _ _ _ rfl (hPb.below H16) H16.size (by omega)).mono ?_
    rintro e w17 ⟨g17, c17, rfl, ho17, hb17⟩
    have S0 := S0.below hb17
    have X0 := X0.below hb17
    have X1 := X1.below hb17
    have G0 := G0.below hb17
    have T5 := T5.below hb17
    have H17 := bto H16 hb17
    have z17 := H17.size
    have y17 := hb17.size
    have T6 := Row.made ho17
    clear ho17
    go_wp2_with fail
    refine (impl_meet a b _ _ _ _ _ _ T5.prs T6.prs (Nat.le_refl _)).mono ?_
    rintro e w18 ⟨A18, c18, rfl, ho18, hb18⟩
    have S0 := S0.below hb18
    have X0 := X0.below hb18
    have X1 := X1.below hb18
    have G0 := G0.below hb18
    have T5 := T5.below hb18
    have T6 := T6.below hb18
    have H18 := bto H17 hb18
    have z18 := H18.size
    have y18 := hb18.size
    have Q0 := Row.made ho18
    clear ho18
    go_wp2_with fail
    refine (eqS_same (meetV a b) _ _ _ _ _ _ _ rfl Q0.prs S0.prs (Nat.le_refl _) (by omega)).mono ?_
    rintro e w19 ⟨rfl, hb19⟩
    have S0 := S0.below hb19
    have X0 := X0.below hb19
    have X1 := X1.below hb19
    have G0 := G0.below hb19
    have T5 := T5.below hb19
    have T6 := T6.below hb19
    have Q0 := Q0.below hb19
    have H19 := bto H18 hb19
    have z19 := H19.size
    have y19 := hb19.size
    go_wp2_with fail
    refine (held_any _ _ _ _ _ _ G0.prs (by omega) (by omega) (by omega)).mono ?_
    rintro e w19h ⟨rfl, rfl⟩
    go_wp2_with fail
    go_ret
    exact ⟨rfl, H19⟩
end Go.Proofs.Ytakccgajnmkplaa
