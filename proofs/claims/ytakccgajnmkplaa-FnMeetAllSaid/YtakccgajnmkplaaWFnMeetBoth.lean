/- The law FnMeetBoth returns true. -/
import Derived.Test.YtakccgajnmkplaaMk
import Derived.Test.YtakccgajnmkplaaShellR
namespace Go.Proofs.Ytakccgajnmkplaa
open Go.RowKit

theorem meetV_comm (a b : List R2) : meetV b a = meetV a b := by
  unfold meetV
  rcases rvB_bool a with ha | ha <;> rcases rvB_bool b with hb | hb <;> rw [ha, hb]
  · exact meet_comm (asc_of (rvB_in ha).2) (asc_of (rvB_in hb).2)
  all_goals rfl
theorem meetV_self {a : List R2} (ha : rvB a = true) : meetV a a = a := by
  rw [meetV_yes ha ha]
  exact meet_self (asc_of (rvB_in ha).2)
theorem meetV_len (a b : List R2) : (meetV a b).length ≤ 64 := by
  unfold meetV
  split
  · rename_i h
    simp only [Bool.and_eq_true] at h
    have h1 := (rvB_in h.1).1
    have h2 := (rvB_in h.2).1
    have := meetS_len b h2 a
    omega
  · simp

set_option maxHeartbeats 2000000 in
theorem w_FnMeetBoth (w : World) (A : Option Addr) (len cap : Nat) (hs : Src w.heap.size w A len) (hc : len ≤ cap) (hm : cap ≤ maxLen) :
    Calls Try.prog 10 #[.slice A len cap] w fun e w' => e = .returned (.bool true) ∧ Below w.heap.size w w' := by
  have hm' := hm
  unfold maxLen at hm'
  by_cases hbig : 1048576 < len
  · go_enter Try.func10, Try.ntmps10
    go_wp2_with fail
    go_ret
    exact ⟨rfl, Below.refl _ _⟩
  · go_enter Try.func10, Try.ntmps10
    go_wp2_with fail
    refine (drawMeet hs (Nat.le_refl _) hc hm).mono ?_
    rintro e w1 ⟨b1, c1, b2, c2, a, b, rfl, ho1, ho2, ha9, hb9, _, _, hb1⟩
    have R1 := Row.made ho1
    have R2 := Row.made ho2
    have hV := meetV_len a b
    have hV' := meetV_len b a
    have hVs := meetV_len a a
    clear ho1 ho2 hs
    go_wp2_with fail
    refine (impl_meet a b _ _ _ _ _ _ R1.prs R2.prs (Nat.le_refl _)).mono ?_
    rintro e w2 ⟨A2, c3, rfl, ho3, hb2⟩
    have G := Row.made ho3
    have R1 := R1.below hb2
    have R2 := R2.below hb2
    have H2 := bto hb1 hb2
    clear ho3
    go_wp2_with fail
    refine (spec_meet a b _ _ _ _ _ _ R1.prs R2.prs (Nat.le_refl _) (by omega) (by omega)).mono ?_
    rintro e w3 ⟨A3, c4, rfl, ho4, hb3⟩
    have S := Row.made ho4
    have R1 := R1.below hb3
    have R2 := R2.below hb3
    have G := G.below hb3
    have H3 := bto H2 hb3
    clear ho4
    go_wp2_with fail
    refine (sameR_any (meetV a b) _ _ _ _ _ _ _ rfl G.prs S.prs (Nat.le_refl _) (by omega)).mono ?_
    rintro e w4 ⟨rfl, hb4⟩
    have R1 := R1.below hb4
    have R2 := R2.below hb4
    have G := G.below hb4
    have H4 := bto H3 hb4
    clear S
    go_wp2_with fail
    refine (impl_meet b a _ _ _ _ _ _ R2.prs R1.prs (Nat.le_refl _)).mono ?_
    rintro e w5 ⟨A5, c5, rfl, ho5, hb5⟩
    rw [meetV_comm a b] at ho5 ⊢
    have T := Row.made ho5
    have R1 := R1.below hb5
    have G := G.below hb5
    have H5 := bto H4 hb5
    clear ho5 R2
    go_wp2_with fail
    refine (sameR_any (meetV a b) _ _ _ _ _ _ _ rfl T.prs G.prs (Nat.le_refl _) (by omega)).mono ?_
    rintro e w6 ⟨rfl, hb6⟩
    have R1 := R1.below hb6
    have H6 := bto H5 hb6
    clear T G
    go_wp2_with fail
    refine (impl_rv a _ _ _ _ _ rfl R1.prs (Nat.le_refl _)).mono ?_
    rintro e w7 ⟨rfl, hb7⟩
    have R1 := R1.below hb7
    have H7 := bto H6 hb7
    rcases rvB_bool a with ha | ha
    · have eS := meetV_self ha
      go_wp2_with fail
      refine (impl_meet a a _ _ _ _ _ _ R1.prs R1.prs (Nat.le_refl _)).mono ?_
      rintro e w8 ⟨A8, c8, rfl, ho8, hb8⟩
      rw [eS] at ho8 ⊢
      have T := Row.made ho8
      have R1 := R1.below hb8
      have H8 := bto H7 hb8
      clear ho8
      go_wp2_with fail
      refine (sameR_any a _ _ _ _ _ _ _ rfl T.prs R1.prs (Nat.le_refl _) (by omega)).mono ?_
      rintro e w9 ⟨rfl, hb9'⟩
      go_wp2_with fail
      go_ret
      exact ⟨rfl, bto H8 hb9'⟩
    · go_wp2_with fail
      go_ret
      exact ⟨rfl, H7⟩
end Go.Proofs.Ytakccgajnmkplaa
