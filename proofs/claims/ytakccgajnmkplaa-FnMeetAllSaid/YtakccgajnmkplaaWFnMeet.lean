/- The law FnMeet returns true. -/
import Derived.Test.YtakccgajnmkplaaWFnMeetBoth
namespace Go.Proofs.Ytakccgajnmkplaa
open Go.RowKit
attribute [local go_sem] lt_cell

theorem hasB_cov {l : List R2} {n : Int} (h : rvB l = true) : hasB l n = true ↔ Cov l n := by
  unfold hasB Cov
  rw [h]
  simp only [Bool.true_and, List.any_eq_true]
  constructor
  · rintro ⟨r, hr, hi⟩
    unfold inR at hi
    simp only [Bool.and_eq_true, decide_eq_true_eq] at hi
    exact ⟨r, hr, hi⟩
  · rintro ⟨r, hr, hi⟩
    refine ⟨r, hr, ?_⟩
    unfold inR
    simp only [Bool.and_eq_true, decide_eq_true_eq]
    exact hi
theorem meetV_in {a b : List R2} {x : R2} (h : x ∈ meetV a b) : rvB a = true ∧ rvB b = true ∧ x.1 < x.2 ∧ -86400000 ≤ x.1 ∧ x.2 ≤ 315537984000000 ∧ (∀ z, x.1 ≤ z → z < x.2 → Cov a z ∧ Cov b z) := by
  unfold meetV at h
  split at h
  · rename_i hv
    simp only [Bool.and_eq_true] at hv
    have hA := meet_asc (asc_of (rvB_in hv.1).2) (asc_of (rvB_in hv.2).2)
    have hx := rB_iff.1 (hA.1 x h)
    exact ⟨hv.1, hv.2, hx.2.1, hx.1, hx.2.2, fun z h1 h2 => (meet_cov z).1 ⟨x, h, h1, h2⟩⟩
  · simp at h
theorem meet_at {a b : List R2} {k : Nat} {x y : Int} (hk : k < (meetV a b).length) (e : (meetV a b).getD k (0, 0) = (x, y)) :
    x < y ∧ -86400000 ≤ x ∧ y ≤ 315537984000000 ∧ hasB a x = true ∧ hasB a (y - 1) = true ∧ hasB b x = true ∧ hasB b (y - 1) = true := by
  have hm : (x, y) ∈ meetV a b := by rw [← e]; simp [List.getD, hk]
  obtain ⟨ha, hb, h1, h2, h3, h4⟩ := meetV_in hm
  have h1' : x < y := h1
  have p := h4 x (Int.le_refl _) h1
  have q := h4 (y - 1) (by show x ≤ y - 1; omega) (by show y - 1 < y; omega)
  exact ⟨h1, h2, h3, (hasB_cov ha).2 p.1, (hasB_cov ha).2 q.1, (hasB_cov hb).2 p.2, (hasB_cov hb).2 q.2⟩

set_option maxHeartbeats 2000000 in
theorem w_FnMeet (w : World) (A : Option Addr) (len cap : Nat) (hs : Src w.heap.size w A len) (hc : len ≤ cap) (hm : cap ≤ maxLen) :
    Calls Try.prog 11 #[.slice A len cap] w fun e w' => e = .returned (.bool true) ∧ Below w.heap.size w w' := by
  have hm' := hm
  unfold maxLen at hm'
  by_cases hbig : 1048576 < len
  · go_enter Try.func11, Try.ntmps11
    go_wp2_with fail
    go_ret
    exact ⟨rfl, Below.refl _ _⟩
  · go_enter Try.func11, Try.ntmps11
    go_wp2_with fail
    refine (drawMeet hs (Nat.le_refl _) hc hm).mono ?_
    rintro e w1 ⟨b1, c1, b2, c2, a, b, rfl, ho1, ho2, ha9, hb9, _, _, hb1⟩
    have R1 := Row.made ho1
    have R2 := Row.made ho2
    have hV := meetV_len a b
    have hV' := meetV_len b a
    have hVs := meetV_len a a
    clear ho1 ho2 hs
    go_wp2_with fail
    refine (impl_meet a b _ _ _ _ _ _ R1.prs R2.prs (Nat.le_refl _)).mono ?_
    rintro e w2 ⟨A2, c3, rfl, ho3, hb2⟩
    have G := Row.made ho3
    have R1 := R1.below hb2
    have R2 := R2.below hb2
    have H2 := bto hb1 hb2
    clear ho3
    go_wp2_with fail
    refine (spec_meet a b _ _ _ _ _ _ R1.prs R2.prs (Nat.le_refl _) (by omega) (by omega)).mono ?_
    rintro e w3 ⟨A3, c4, rfl, ho4, hb3⟩
    have S := Row.made ho4
    have R1 := R1.below hb3
    have R2 := R2.below hb3
    have G := G.below hb3
    have H3 := bto H2 hb3
    clear ho4
    go_wp2_with fail
    refine (sameR_any (meetV a b) _ _ _ _ _ _ _ rfl G.prs S.prs (Nat.le_refl _) (by omega)).mono ?_
    rintro e w4 ⟨rfl, hb4⟩
    have R1 := R1.below hb4
    have R2 := R2.below hb4
    have G := G.below hb4
    have H4 := bto H3 hb4
    clear S
    have VG := hide G.prs.view
    have hs4 := hb4.size
    have Q := hide (⟨R1, R2, G, H4⟩ : _ ∧ _ ∧ _ ∧ _)
    have MA := hide (fun (k : Nat) (x y : Int) (hk : k < (meetV a b).length) (e : (meetV a b).getD k (0, 0) = (x, y)) => meet_at hk e)
    generalize meetV a b = M at VG Q MA hV
    clear R1 R2 G hV' hVs hb1 hb2 hb3 hb4 H2 H3 H4
    go_wp2_with fail
    go_loopw [7] (fun i wr => ∃ k : Nat, k ≤ M.length ∧ i = .int .i64 k ∧ Below w4.heap.size w4 wr) (fun i _ => M.length - (intOf i).toNat)
    case atStart => exact ⟨0, by omega, rfl, Below.refl _ _⟩
    case round =>
      obtain ⟨k, hk, rfl, hb⟩ := hrel
      by_cases hlt : k < M.length
      · obtain ⟨x, y, hxy⟩ := pair_ex M k
        obtain ⟨e1, e2, e3, e4, e5, e6, e7⟩ := MA.out k x y hlt hxy
        rcases VG.out with h0 | ⟨b0, o0, rfl, hb0, hcs⟩
        · omega
        obtain ⟨d0, d1⟩ := hcs k hlt
        rw [hxy] at d0 d1
        replace d0 := (hb.cell (p := ⟨b0, o0 + k * 2, none⟩) hb0).trans d0
        replace d1 := (hb.cell (p := ⟨b0, o0 + k * 2 + 1, none⟩) hb0).trans d1
        have X0 := hide (Blk.new wr 36 #[.int .i64 x, .int .i64 y])
        have HE := hide (⟨e4, e5, e6, e7⟩ : _ ∧ _ ∧ _ ∧ _)
        have hsz := hb.size
        have B0 := bal hb (.cells #[.int .i64 x, .int .i64 y] 36)
        clear hcs hxy e4 e5 e6 e7
        go_wp2_with fail
        refine (impl_has a x _ _ _ _ _ rfl (Q.out.1.prs.below B0) B0.size (by omega)).mono ?_
        rintro e w5 ⟨rfl, hb5⟩
        rw [HE.out.1]
        have X1 := hide (X0.out.below hb5 X0.out.lt)
        have B1 := bto B0 hb5
        have x10 := X1.out.cell 0
        have x11 := X1.out.cell 1
        simp at x10 x11
        go_wp2_with fail
        refine (impl_has a (y - 1) _ _ _ _ _ rfl (Q.out.1.prs.below B1) B1.size (by omega)).mono ?_
        rintro e w6 ⟨rfl, hb6⟩
        rw [HE.out.2.1]
        have X2 := hide (X1.out.below hb6 X1.out.lt)
        have B2 := bto B1 hb6
        have x20 := X2.out.cell 0
        have x21 := X2.out.cell 1
        simp at x20 x21
        go_wp2_with fail
        refine (impl_has b x _ _ _ _ _ rfl (Q.out.2.1.prs.below B2) B2.size (by omega)).mono ?_
        rintro e w7 ⟨rfl, hb7⟩
        rw [HE.out.2.2.1]
        have X3 := hide (X2.out.below hb7 X2.out.lt)
        have B3 := bto B2 hb7
        have x30 := X3.out.cell 0
        have x31 := X3.out.cell 1
        simp at x30 x31
        go_wp2_with fail
        refine (impl_has b (y - 1) _ _ _ _ _ rfl (Q.out.2.1.prs.below B3) B3.size (by omega)).mono ?_
        rintro e w8 ⟨rfl, hb8⟩
        rw [HE.out.2.2.2]
        have B4 := bto B3 hb8
        go_wp2_with fail
        go_roundw
        case rel => exact ⟨k + 1, by omega, by go_num, B4⟩
        case measure => simp [intOf]; omega
      · obtain rfl : k = M.length := by omega
        go_wp2_with fail
        go_ret
        exact ⟨rfl, bto Q.out.2.2.2 hb⟩
end Go.Proofs.Ytakccgajnmkplaa
