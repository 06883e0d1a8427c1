/- The law FnJoinHas returns true. -/
import Derived.Test.YtakccgajnmkplaaDrJo
import Derived.Test.YtakccgajnmkplaaShellR
import Derived.Test.YtakccgajnmkplaaWFnJoinTotal
import Derived.BigQuiet
namespace Go.Proofs.Ytakccgajnmkplaa
open Go.RowKit
attribute [local go_sem] lt_cell
theorem hasB_cov' {l : List R2} {n : Int} (h : rvB l = true) : hasB l n = true ↔ Cov l n := by
  unfold hasB Cov inR
  rw [h]
  simp only [Bool.true_and, List.any_eq_true, Bool.and_eq_true, decide_eq_true_eq]
theorem has_join {l : List R2} (h : joinOk l = true) (n : Int) : hasB (joinS l) n = l.any (inR n) := by
  obtain ⟨h8, hall⟩ := joinOk_in h
  rw [Bool.eq_iff_iff, hasB_cov' (joinS_ok h).2.2.1, (joinS_law l hall).2.1 n]
  unfold Cov inR
  simp only [List.any_eq_true, Bool.and_eq_true, decide_eq_true_eq]
theorem any_snoc' {M : List R2} {k : Nat} {r : R2} {n : Int} (hk : k < M.length) (e : M.getD k (0, 0) = r) : (M.take (k + 1)).any (inR n) = ((M.take k).any (inR n) || inR n r) := by
  rw [take_snoc hk e]
  simp

set_option maxRecDepth 100000 in
set_option maxHeartbeats 4000000 in
theorem w_FnJoinHas (w : World) (A : Option Addr) (len cap : Nat) (hs : Src w.heap.size w A len) (hc : len ≤ cap) (hm : cap ≤ maxLen) :
    Calls Try.prog 16 #[.slice A len cap] w fun e w' => e = .returned (.bool true) ∧ Below w.heap.size w w' := by
  have hm' := hm
  unfold maxLen at hm'
  by_cases hbig : 1048576 < len
  · go_enter Try.func16, Try.ntmps16
    go_wp2_with fail
    go_ret
    exact ⟨rfl, Below.refl _ _⟩
  · go_enter Try.func16, Try.ntmps16
    go_wp2_with fail
    refine (drawJoin hs (Nat.le_refl _) hc hm).mono ?_
    rintro e w1 ⟨b1, c1, l, rfl, ho1, hl9, hbd, hb1⟩
    have R1 := Row.made ho1
    have HBD := hide hbd
    clear ho1 hs hbd
    go_wp2_with fail
    refine (impl_join l _ _ _ _ _ rfl R1.prs (Nat.le_refl _) (by omega)).mono ?_
    rintro e w2 (⟨hj, rfl, hb2⟩ | ⟨hj, b2, c2, rfl, ho2, hb2⟩)
    · have G : Row w2 w1.heap.size w2.heap.size none 0 0 [] := Row.nil w2 w1
      have R1 := R1.below hb2
      have H2 := bto hb1 hb2
      clear HBD
      go_wp2_with fail
      refine (spec_join l _ _ _ _ _ rfl R1.prs (Nat.le_refl _)).mono ?_
      rintro e w3 ⟨b3, c3, rfl, ho3, hb3⟩
      rw [hj] at ho3 ⊢
      simp only [Bool.false_eq_true, if_false, List.length_nil] at ho3 ⊢
      have S := Row.made ho3
      have G := G.below hb3
      have H3 := bto H2 hb3
      clear ho3 R1 hj
      go_wp2_with fail
      refine (sameR_any [] _ _ _ _ _ _ _ rfl G.prs S.prs (Nat.le_refl _) (by simp)).mono ?_
      rintro e w4 ⟨rfl, hb4⟩
      have S := S.below hb4
      have G := G.below hb4
      have H4 := bto H3 hb4
      go_wp2_with fail
      refine (sameR_any [] _ _ _ _ _ _ _ rfl G.prs S.prs (Nat.le_refl _) (by simp)).mono ?_
      rintro e w5 ⟨rfl, hb5⟩
      go_wp2_with fail
      go_ret
      exact ⟨rfl, bto H4 hb5⟩
    · obtain ⟨hjj, hself, hrv, hlen⟩ := joinS_ok hj
      have HJJ := hide hjj
      have HSELF := hide hself
      have HRV := hide hrv
      have HJ := hide hj
      have G := Row.made ho2
      have R1 := R1.below hb2
      have H2 := bto hb1 hb2
      clear ho2 hjj hself hrv
      go_wp2_with fail
      refine (spec_join l _ _ _ _ _ rfl R1.prs (Nat.le_refl _)).mono ?_
      rintro e w3 ⟨b3, c3, rfl, ho3, hb3⟩
      rw [hj] at ho3 ⊢
      simp only [if_true] at ho3 ⊢
      have S := Row.made ho3
      have R1 := R1.below hb3
      have G := G.below hb3
      have H3 := bto H2 hb3
      clear ho3 hj
      go_wp2_with fail
      refine (sameR_any (joinS l) _ _ _ _ _ _ _ rfl G.prs S.prs (Nat.le_refl _) (by omega)).mono ?_
      rintro e w4 ⟨rfl, hb4⟩
      have R1 := R1.below hb4
      have G := G.below hb4
      have H4 := bto H3 hb4
      clear S
      have hv := hide R1.prs.view'
      have t1 := R1.top b1 rfl
      have hs4 := hb4.size
      have hs3 := hb3.size
      have hs2 := hb2.size
      obtain ⟨h8, hall⟩ := joinOk_in HJ.out
      have HALL := hide hall
      have HAS := hide (has_join HJ.out)
      have HG := hide G
      have H4' := hide H4
      clear R1 G HJJ HSELF HBD hb1 hb2 hb3 hb4 H2 H3 H4 hall
      go_wp2_with fail
      go_loopw [8] (fun i wr => ∃ k : Nat, k ≤ l.length ∧ i = .int .i64 k ∧ Below w4.heap.size w4 wr) (fun i _ => l.length - (intOf i).toNat)
      case atStart => exact ⟨0, by omega, rfl, Below.refl _ _⟩
      case round =>
        obtain ⟨k, hk, rfl, hbw⟩ := hrel
        obtain ⟨wo, hwo⟩ : ∃ wo : World, wo = wr := ⟨_, rfl⟩
        subst hwo
        have hsw := hbw.size
        by_cases hlt : k < l.length
        · obtain ⟨x, y, hxy⟩ := pair_ex l k
          rcases hv.out with h0 | ⟨b0, o0, e0, hb0, hcs⟩
          · omega
          cases e0
          obtain ⟨d0, d1⟩ := hcs k hlt
          rw [hxy] at d0 d1
          replace d0 := (hbw.cell (p := ⟨b1, 0 + k * 2, none⟩) (by show b1 < _; omega)).trans d0
          replace d1 := (hbw.cell (p := ⟨b1, 0 + k * 2 + 1, none⟩) (by show b1 < _; omega)).trans d1
          simp only [Nat.zero_add] at d0 d1
          have hn1 : b1 < wo.heap.size := by omega
          obtain ⟨q1, q2, q3⟩ := rB_bds HALL.out hlt hxy
          have e1 : IntKind.i64.wrap (x - 1) = x - 1 := IntWalk.i64_in _ (by omega)
          have e2 : IntKind.i64.wrap (y - 1) = y - 1 := IntWalk.i64_in _ (by omega)
          have HCS := hide hcs
          clear hcs hxy
          go_wp2_with fail
          go_region_held3 (fun w' => w'.cell? ⟨b1, k * 2, none⟩ = some (.int .i64 x) ∧ w'.cell? ⟨b1, k * 2 + 1, none⟩ = some (.int .i64 y)) (first | go_keep) (fail)
          have hE : ∀ j, j < 4 → (wo.alloc (.cells #[.int .i64 (x - 1), .int .i64 x, .int .i64 (y - 1), .int .i64 y] 3)).drew.cell? ⟨wo.heap.size, j, none⟩ = some (.int .i64 ([x - 1, x, y - 1, y].getD j 0)) := fun j hj => by
            have h := World.cell?_alloc_new wo #[.int .i64 (x - 1), .int .i64 x, .int .i64 (y - 1), .int .i64 y] 3 j
            refine Eq.trans (show _ = (wo.alloc (.cells #[.int .i64 (x - 1), .int .i64 x, .int .i64 (y - 1), .int .i64 y] 3)).cell? ⟨wo.heap.size, j, none⟩ from rfl) (h.trans ?_)
            rcases j with _ | _ | _ | _ | j
            · rfl
            · rfl
            · rfl
            · rfl
            · omega
          have hEB : ∀ j, j < 4 → -86400001 ≤ [x - 1, x, y - 1, y].getD j 0 ∧ [x - 1, x, y - 1, y].getD j 0 ≤ 315537984000000 := fun j hj => by
            rcases j with _ | _ | _ | _ | j
            · show -86400001 ≤ x - 1 ∧ x - 1 ≤ 315537984000000; omega
            · show -86400001 ≤ x ∧ x ≤ 315537984000000; omega
            · show -86400001 ≤ y - 1 ∧ y - 1 ≤ 315537984000000; omega
            · show -86400001 ≤ y ∧ y ≤ 315537984000000; omega
            · omega
          have hBW : Below w4.heap.size w4 (wo.alloc (.cells #[.int .i64 (x - 1), .int .i64 x, .int .i64 (y - 1), .int .i64 y] 3)).drew := bdrew (bal hbw _)
          have hsz : wo.heap.size < (wo.alloc (.cells #[.int .i64 (x - 1), .int .i64 x, .int .i64 (y - 1), .int .i64 y] 3)).drew.heap.size := by simp
          generalize (wo.alloc (.cells #[.int .i64 (x - 1), .int .i64 x, .int .i64 (y - 1), .int .i64 y] 3)).drew = W at hE hBW hsz ⊢
          generalize [x - 1, x, y - 1, y] = E at hE hEB
          generalize wo.heap.size = be at hE hsz hsw hn1 ⊢
          have HE := hide hE
          have HEB := hide hEB
          have hsW := hBW.size
          clear hE hEB d0 d1 e1 e2 q1 q2 q3
          go_wp2_with fail
          go_loopw [10] (fun i wr => ∃ j : Nat, j ≤ 4 ∧ i = .int .i64 j ∧ Below W.heap.size W wr) (fun i _ => 4 - (intOf i).toNat)
          case atStart => exact ⟨0, by omega, rfl, Below.refl _ _⟩
          case round =>
            obtain ⟨j, hj, rfl, hbj⟩ := hrel
            obtain ⟨wi, hwi⟩ : ∃ wi : World, wi = wr := ⟨_, rfl⟩
            subst hwi
            have hsj := hbj.size
            by_cases hlt4 : j < 4
            · have c0 := (hbj.cell (p := ⟨be, j, none⟩) hsz).trans (HE.out j hlt4)
              obtain ⟨g1, g2⟩ := HEB.out j hlt4
              generalize E.getD j 0 = n at c0 g1 g2
              have hbe : be < wi.heap.size := by omega
              have hn2 : b1 < wi.heap.size := by omega
              have HB2 := hide (hBW.trans (hbj.mono hBW.size))
              have gj : decide ((j : Int) < 4) = true := by rw [decide_eq_true_iff]; omega
              go_wp2_with fail
              go_loopw [11, 12] (fun u i wr => ∃ (m : Nat) (sb : Bool), m ≤ l.length ∧ i = .int .i64 m ∧ u = .bool sb ∧ Hid (sb = (l.take m).any (inR n)) ∧ ∃ q : Nat, wr = wi.drewN q) (fun _ i _ => l.length - (intOf i).toNat)
              case atStart => exact ⟨0, false, by omega, rfl, rfl, hide rfl, 0, rfl⟩
              case round =>
                obtain ⟨m, sb, hm2, rfl, rfl, hsb, qd, rfl⟩ := hrel
                by_cases hlt2 : m < l.length
                · obtain ⟨p, q, hpq⟩ := pair_ex l m
                  obtain ⟨d0, d1⟩ := HCS.out m hlt2
                  rw [hpq] at d0 d1
                  replace d0 := (HB2.out.cell (p := ⟨b1, 0 + m * 2, none⟩) hb0).trans d0
                  replace d1 := (HB2.out.cell (p := ⟨b1, 0 + m * 2 + 1, none⟩) hb0).trans d1
                  simp only [Nat.zero_add] at d0 d1
                  have HA := hide (any_snoc' (n := n) hlt2 hpq)
                  have HI := hide (show inR n (p, q) = (decide (p ≤ n) && decide (n < q)) from rfl)
                  clear hpq
                  cases sb with
                  | true =>
                    go_wp2_with fail
                    go_quiet (fail)
                    go_wp2_with fail
                    go_roundw
                    case rel => exact ⟨m + 1, true, by omega, by go_num, rfl, hide (by rw [HA.out, ← hsb.out]; rfl), _, rfl⟩
                    case measure => simp [intOf]; omega
                  | false =>
                    by_cases h1 : p ≤ n
                    · by_cases h2 : n < q
                      · have gp : decide (p ≤ n) = true := by rw [decide_eq_true_iff]; exact h1
                        have gq : decide (n < q) = true := by rw [decide_eq_true_iff]; exact h2
                        go_wp2_with fail
                        go_quiet (fail)
                        go_wp2_with fail
                        go_roundw
                        case rel => exact ⟨m + 1, true, by omega, by go_num, rfl, hide (by rw [HA.out, ← hsb.out, HI.out]; simp [h1, h2]), _, rfl⟩
                        case measure => simp [intOf]; omega
                      · have gp : decide (p ≤ n) = true := by rw [decide_eq_true_iff]; exact h1
                        have gq : decide (n < q) = false := by rw [decide_eq_false_iff_not]; exact h2
                        go_wp2_with fail
                        go_quiet (fail)
                        go_wp2_with fail
                        go_roundw
                        case rel => exact ⟨m + 1, false, by omega, by go_num, rfl, hide (by rw [HA.out, ← hsb.out, HI.out, gp, gq]; rfl), _, rfl⟩
                        case measure => simp [intOf]; omega
                    · have gp : decide (p ≤ n) = false := by rw [decide_eq_false_iff_not]; exact h1
                      go_wp2_with fail
                      go_quiet (fail)
                      go_wp2_with fail
                      go_roundw
                      case rel => exact ⟨m + 1, false, by omega, by go_num, rfl, hide (by rw [HA.out, ← hsb.out, HI.out, gp]; rfl), _, rfl⟩
                      case measure => simp [intOf]; omega
                · obtain rfl : m = l.length := by omega
                  have HE2 := hide (show sb = hasB (joinS l) n by rw [hsb.out, List.take_length, HAS.out])
                  have G := HG.out.below (bdrewN HB2.out qd)
                  obtain rfl : sb = hasB (joinS l) n := HE2.out
                  go_wp2_with fail
                  refine (impl_has (joinS l) n _ _ _ _ _ rfl G.prs (Nat.le_refl _) (by omega)).mono ?_
                  rintro e w9 ⟨rfl, hb9'⟩
                  have gq : (hasB (joinS l) n != hasB (joinS l) n) = false := by simp
                  have B9 := hide (bto (bdrewN hbj qd) hb9')
                  go_wp2_with fail
                  go_roundw
                  case rel => exact ⟨j + 1, by omega, by go_num, B9.out⟩
                  case measure => simp [intOf]; omega
            · obtain rfl : j = 4 := by omega
              have B9 := hide (hBW.trans (hbj.mono hBW.size))
              go_wp2_with fail
              go_roundw
              case rel => exact ⟨k + 1, by omega, by go_num, B9.out⟩
              case measure => simp [intOf]; omega
        · obtain rfl : k = l.length := by omega
          go_wp2_with fail
          go_ret
          exact ⟨rfl, bto H4'.out hbw⟩
end Go.Proofs.Ytakccgajnmkplaa
