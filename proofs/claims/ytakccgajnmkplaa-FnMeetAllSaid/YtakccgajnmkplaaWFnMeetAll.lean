/- The law FnMeetAll returns true. -/
import Derived.Test.YtakccgajnmkplaaWFnMeet
import Derived.Test.YtakccgajnmkplaaApS
namespace Go.Proofs.Ytakccgajnmkplaa
open Go.RowKit

theorem meetV_any {a b : List R2} (ha : rvB a = true) (hb : rvB b = true) (n : Int) : (meetV a b).any (inR n) = (hasB a n && hasB b n) := by
  rw [Bool.eq_iff_iff, Bool.and_eq_true, hasB_cov ha, hasB_cov hb, ← meet_cov, meetV_yes ha hb]
  unfold Cov
  simp only [List.any_eq_true]
  constructor
  · rintro ⟨r, hr, hi⟩
    unfold inR at hi
    simp only [Bool.and_eq_true, decide_eq_true_eq] at hi
    exact ⟨r, hr, hi⟩
  · rintro ⟨r, hr, hi⟩
    refine ⟨r, hr, ?_⟩
    unfold inR
    simp only [Bool.and_eq_true, decide_eq_true_eq]
    exact hi
theorem any_snoc {M : List R2} {k : Nat} {r : R2} {n : Int} (hk : k < M.length) (e : M.getD k (0, 0) = r) : (M.take (k + 1)).any (inR n) = ((M.take k).any (inR n) || inR n r) := by
  rw [take_snoc hk e]
  simp
theorem any_all (M : List R2) (n : Int) : (M.take M.length).any (inR n) = M.any (inR n) := by rw [List.take_length]

set_option maxRecDepth 100000 in
set_option maxHeartbeats 2000000 in
theorem w_FnMeetAll (w : World) (A : Option Addr) (len cap : Nat) (hs : Src w.heap.size w A len) (hc : len ≤ cap) (hm : cap ≤ maxLen) :
    Calls Try.prog 12 #[.slice A len cap] w fun e w' => e = .returned (.bool true) ∧ Below w.heap.size w w' := by
  have hm' := hm
  unfold maxLen at hm'
  by_cases hbig : 1048576 < len
  · go_enter Try.func12, Try.ntmps12
    go_wp2_with fail
    go_ret
    exact ⟨rfl, Below.refl _ _⟩
  · go_enter Try.func12, Try.ntmps12
    go_wp2_with fail
    refine (drawMeet hs (Nat.le_refl _) hc hm).mono ?_
    rintro e w1 ⟨b1, c1, b2, c2, a, b, rfl, ho1, ho2, ha9, hb9, _, _, hb1⟩
    have R1 := Row.made ho1
    have R2 := Row.made ho2
    have hV := meetV_len a b
    have hV' := meetV_len b a
    have hVs := meetV_len a a
    clear ho1 ho2 hs
    go_wp2_with fail
    refine (impl_meet a b _ _ _ _ _ _ R1.prs R2.prs (Nat.le_refl _)).mono ?_
    rintro e w2 ⟨A2, c3, rfl, ho3, hb2⟩
    have G := Row.made ho3
    have R1 := R1.below hb2
    have R2 := R2.below hb2
    have H2 := bto hb1 hb2
    clear ho3
    go_wp2_with fail
    refine (spec_meet a b _ _ _ _ _ _ R1.prs R2.prs (Nat.le_refl _) (by omega) (by omega)).mono ?_
    rintro e w3 ⟨A3, c4, rfl, ho4, hb3⟩
    have S := Row.made ho4
    have R1 := R1.below hb3
    have R2 := R2.below hb3
    have G := G.below hb3
    have H3 := bto H2 hb3
    clear ho4
    go_wp2_with fail
    refine (sameR_any (meetV a b) _ _ _ _ _ _ _ rfl G.prs S.prs (Nat.le_refl _) (by omega)).mono ?_
    rintro e w4 ⟨rfl, hb4⟩
    have R1 := R1.below hb4
    have R2 := R2.below hb4
    have G := G.below hb4
    have S := S.below hb4
    have H4 := bto H3 hb4
    go_wp2_with fail
    refine (spec_rv a _ _ _ _ _ rfl R1.prs (Nat.le_refl _) (by omega)).mono ?_
    rintro e w5 ⟨rfl, hb5⟩
    have R1 := R1.below hb5
    have R2 := R2.below hb5
    have G := G.below hb5
    have S := S.below hb5
    have H5 := bto H4 hb5
    have fin : ∀ W : World, Below w.heap.size w W → Row W w2.heap.size w3.heap.size A3 (meetV a b).length c4 (meetV a b) → Row W w1.heap.size w2.heap.size A2 (meetV a b).length c3 (meetV a b) → Calls Try.prog 35 #[.slice A2 (meetV a b).length c3, .slice A3 (meetV a b).length c4] W fun e w' => e = .returned (.bool true) ∧ Below w.heap.size w w' := fun W hW hS hG =>
      (sameR_any (meetV a b) _ _ _ _ _ _ _ rfl hG.prs hS.prs (Nat.le_refl _) (by omega)).mono fun e w' ⟨he, hb⟩ => ⟨he, bto hW hb⟩
    rcases rvB_bool a with ha | ha
    · go_wp2_with fail
      refine (spec_rv b _ _ _ _ _ rfl R2.prs (Nat.le_refl _) (by omega)).mono ?_
      rintro e w6 ⟨rfl, hb6⟩
      have R1 := R1.below hb6
      have R2 := R2.below hb6
      have G := G.below hb6
      have S := S.below hb6
      have H6 := bto H5 hb6
      rcases rvB_bool b with hb | hb
      · clear fin S
        obtain ⟨i0, hi, hz0, hz1, hz2⟩ := info_parts info_impl
        have HAN := hide (fun n => meetV_any ha hb n)
        have hs5 := hb5.size
        have hs6 := hb6.size
        have hsz4 := hb4.size
        have hsz3 := hb3.size
        have hsz2 := hb2.size
        have E6 := hide (show (w6.alloc (.cells #[] 36)).ownsRow w6.heap.size 36 2 (.slice (some ⟨w6.heap.size, 0, none⟩) 0 0) 0 (flatP []) from World.ownsRow_lit (base := w6.heap.size) (size := 2) (e := 36) w6 #[] 0 (Nat.le_refl _) (by simp [maxLen]) (by simp))
        have N1 := hide ((R1.own.alloc (.cells #[] 36)).cells (g := b1) rfl)
        have HR1 := hide R1
        have HR2 := hide R2
        have HG := hide G
        have t1 := R1.top b1 rfl
        have t2 := R2.top b2 rfl
        generalize hM : meetV a b = M at HAN HG hV
        have H6' := hide H6
        clear R1 R2 G hb1 hb2 hb3 hb4 hb5 hb6 H2 H3 H4 H5 H6 hV' hVs
        go_wp2_with (first | (at_builtin; refine wpList_append_src _ rfl (.tmp 43) (.tmp 44) _ rfl w6.heap.size 36 i0 (.agg #[.int .i64 0, .int .i64 0]) 2 16 Try.underlying25 hi hz0 hz1 hz2 rfl (by omega) w6.heap.size 0 0 (flatP []) rfl E6.out ⟨b1, 0, none⟩ a.length _ (flatP a) rfl (by rw [flatP_len]) N1.out (flatP_one' _) (by unfold maxLen; omega) (by omega) (by simp) ?_; intro g5 c5 w7 ho5 hg5 hb5 hl5 hx5; simp only [Nat.zero_add]; rw [← flatP_app, Nat.zero_add, List.nil_append] at ho5; have hR27 := (HR2.out.own.alloc (.cells #[] 36)).kept hg5 (.inr (by simp [Value.ownBlock]; omega)); have N2 := hR27.cells (g := b2) rfl) | (at_builtin; refine wpList_append_src _ rfl (.tmp 45) (.tmp 46) _ rfl w6.heap.size 36 i0 (.agg #[.int .i64 0, .int .i64 0]) 2 16 Try.underlying25 hi hz0 hz1 hz2 rfl (by omega) g5 a.length c5 (flatP a) rfl ho5 ⟨b2, 0, none⟩ b.length _ (flatP b) rfl (by rw [flatP_len]) N2 (flatP_one' _) (by unfold maxLen; omega) (by omega) (by have := hg5.size; simp at this; omega) ?_; intro g6 c6 w8 ho6 hg6 hb6 hl6 hx6; rw [← flatP_app] at ho6))
        have B68 : Below w6.heap.size w6 w8 := bonly (bonly (bal (Below.refl _ _) _) hg5 (Nat.le_refl _)) hg6 hb5
        have HO8 := hide ho6
        have VO := hide (Prs.own ho6).view
        have HR1 := hide (HR1.out.below B68)
        have HR2 := hide (HR2.out.below B68)
        have HG := hide (HG.out.below B68)
        have VG := hide HG.out.prs.view
        have H8 := hide (bto H6'.out B68)
        have hl8 : (a ++ b).length = a.length + b.length := List.length_append
        generalize hL : a ++ b = L at HO8 VO hl8
        clear ho5 ho6 hg5 hg6 hR27 N2 E6 N1 B68 H6' hx5 hx6 hL hM
        go_loopw [8] (fun i wr => ∃ k : Nat, k ≤ a.length + b.length ∧ i = .int .i64 k ∧ Below w8.heap.size w8 wr) (fun i _ => a.length + b.length - (intOf i).toNat)
        case atStart => exact ⟨0, by omega, rfl, Below.refl _ _⟩
        case round =>
          obtain ⟨k, hk, rfl, hbw⟩ := hrel
          obtain ⟨wo, hwo⟩ : ∃ wo : World, wo = wr := ⟨_, rfl⟩
          subst hwo
          have hsw := hbw.size
          by_cases hlt : k < a.length + b.length
          · obtain ⟨n, y, hxy⟩ := pair_ex L k
            rcases VO.out with h0 | ⟨b0, o0, e0, hb0, hcs⟩
            · omega
            cases e0
            obtain ⟨d0, d1⟩ := hcs k (by omega)
            rw [hxy] at d0 d1
            replace d0 := (hbw.cell (p := ⟨g6, 0 + k * 2, none⟩) hb0).trans d0
            simp only [Nat.zero_add] at d0
            have HN := hide (HAN.out n)
            clear hcs d1 hxy
            go_wp2_with fail
            go_loopw [10, 11] (fun u i wr => ∃ (j : Nat) (sb : Bool), j ≤ M.length ∧ i = .int .i64 j ∧ u = .bool sb ∧ Hid (sb = (M.take j).any (inR n)) ∧ wo = wr) (fun _ i _ => M.length - (intOf i).toNat)
            case atStart => exact ⟨0, false, by omega, rfl, rfl, hide rfl, rfl⟩
            case round =>
              obtain ⟨j, sb, hj, rfl, rfl, hsb, rfl⟩ := hrel
              by_cases hlt2 : j < M.length
              · obtain ⟨p, q, hpq⟩ := pair_ex M j
                rcases VG.out with h0 | ⟨b3, o3, rfl, hb3, hcs⟩
                · omega
                obtain ⟨c0, c1⟩ := hcs j hlt2
                rw [hpq] at c0 c1
                replace c0 := (hbw.cell (p := ⟨b3, o3 + j * 2, none⟩) hb3).trans c0
                replace c1 := (hbw.cell (p := ⟨b3, o3 + j * 2 + 1, none⟩) hb3).trans c1
                have HA := hide (any_snoc (n := n) hlt2 hpq)
                have HI := hide (show inR n (p, q) = (decide (p ≤ n) && decide (n < q)) from rfl)
                clear hcs hpq
                cases sb with
                | true =>
                  go_wp2_with fail
                  go_roundw
                  case rel => exact ⟨j + 1, true, by omega, by go_num, rfl, hide (by rw [HA.out, ← hsb.out]; rfl), trivial⟩
                  case measure => simp [intOf]; omega
                | false =>
                  by_cases h1 : p ≤ n
                  · by_cases h2 : n < q
                    · go_wp2_with fail
                      go_roundw
                      case rel => exact ⟨j + 1, true, by omega, by go_num, rfl, hide (by rw [HA.out, ← hsb.out, HI.out]; simp [h1, h2]), trivial⟩
                      case measure => simp [intOf]; omega
                    · go_wp2_with fail
                      go_roundw
                      case rel => exact ⟨j + 1, false, by omega, by go_num, rfl, hide (by rw [HA.out, ← hsb.out, HI.out]; simp; omega), trivial⟩
                      case measure => simp [intOf]; omega
                  · go_wp2_with fail
                    go_roundw
                    case rel => exact ⟨j + 1, false, by omega, by go_num, rfl, hide (by rw [HA.out, ← hsb.out, HI.out]; simp [h1]), trivial⟩
                    case measure => simp [intOf]; omega
              · obtain rfl : j = M.length := by omega
                have HE := hide (show sb = (hasB a n && hasB b n) by rw [hsb.out, any_all, HN.out])
                have P1 := HR1.out.prs.below hbw
                have P2 := HR2.out.prs.below hbw
                go_wp2_with fail
                refine (impl_has a n _ _ _ _ _ rfl P1 hsw (by omega)).mono ?_
                rintro e w9 ⟨rfl, hb9'⟩
                have B9 := bto hbw hb9'
                cases hha : hasB a n with
                | false =>
                  rw [hha] at HE
                  obtain rfl : sb = false := by rw [HE.out]; rfl
                  go_wp2_with fail
                  go_roundw
                  case rel => exact ⟨k + 1, by omega, by go_num, B9⟩
                  case measure => simp [intOf]; omega
                | true =>
                  rw [hha, Bool.true_and] at HE
                  obtain rfl : sb = hasB b n := HE.out
                  go_wp2_with fail
                  refine (impl_has b n _ _ _ _ _ rfl (HR2.out.prs.below B9) B9.size (by omega)).mono ?_
                  rintro e w10 ⟨rfl, hb10⟩
                  have B10 := bto B9 hb10
                  have gq : (hasB b n != hasB b n) = false := by simp
                  go_wp2_with fail
                  go_roundw
                  case rel => exact ⟨k + 1, by omega, by go_num, B10⟩
                  case measure => simp [intOf]; omega
          · obtain rfl : k = a.length + b.length := by omega
            go_wp2_with fail
            go_ret
            exact ⟨rfl, bto H8.out hbw⟩
      · go_wp2_with fail
        refine (fin _ H6 S G).mono ?_
        rintro e w7 ⟨rfl, H7⟩
        go_wp2_with fail
        go_ret
        exact ⟨rfl, H7⟩
    · go_wp2_with fail
      refine (fin _ H5 S G).mono ?_
      rintro e w7 ⟨rfl, H7⟩
      go_wp2_with fail
      go_ret
      exact ⟨rfl, H7⟩
end Go.Proofs.Ytakccgajnmkplaa
