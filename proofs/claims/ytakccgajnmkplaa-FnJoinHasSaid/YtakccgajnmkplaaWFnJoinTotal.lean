/- The law FnJoinTotal returns true. -/
import Derived.Test.YtakccgajnmkplaaDrJo
import Derived.Test.YtakccgajnmkplaaShellR
namespace Go.Proofs.Ytakccgajnmkplaa
open Go.RowKit
attribute [local go_sem] lt_cell
/-- The greatest length. -/
def mst (l : List R2) : Int := l.foldl (fun m r => max m (r.2 - r.1)) 0
theorem mst_take {l : List R2} {k : Nat} {x y : Int} (hk : k < l.length) (h : l.getD k (0, 0) = (x, y)) : mst (l.take (k + 1)) = max (mst (l.take k)) (y - x) := by
  rw [take_snoc hk h]
  unfold mst
  rw [List.foldl_append]
  rfl
theorem mst_go {T : Int} (l : List R2) : ∀ m : Int, m ≤ T → (∀ r ∈ l, r.2 - r.1 ≤ T) → l.foldl (fun m r => max m (r.2 - r.1)) m ≤ T := by
  induction l with
  | nil => intro m hm _; exact hm
  | cons r t ih =>
    intro m hm h
    rw [List.foldl_cons]
    exact ih _ (by have := h r (by simp); omega) fun r hr => h r (by simp [hr])
theorem mst_le {T : Int} {l : List R2} (h0 : 0 ≤ T) (h : ∀ r ∈ l, r.2 - r.1 ≤ T) : mst l ≤ T := mst_go l 0 h0 h
theorem rB_bds {l : List R2} (h : ∀ r ∈ l, rB r = true) {k : Nat} {x y : Int} (hk : k < l.length) (e : l.getD k (0, 0) = (x, y)) : -86400000 ≤ x ∧ x < y ∧ y ≤ 315537984000000 := by
  have hm : (x, y) ∈ l := by rw [← e]; simp [List.getD, hk]
  have := rB_iff.1 (h _ hm)
  omega
theorem tot_take_bd' {l : List R2} (h : ∀ r ∈ l, rB r = true) (k : Nat) (hk : l.length ≤ 8) : 0 ≤ tot (l.take k) ∧ tot (l.take k) ≤ 2524304563200000 := by
  have h1 := tot_bd (l := l.take k) fun r hr => h r (List.mem_of_mem_take hr)
  have h2 : (l.take k).length ≤ 8 := by rw [List.length_take]; omega
  omega

set_option maxRecDepth 100000 in
set_option maxHeartbeats 4000000 in
theorem w_FnJoinTotal (w : World) (A : Option Addr) (len cap : Nat) (hs : Src w.heap.size w A len) (hc : len ≤ cap) (hm : cap ≤ maxLen) :
    Calls Try.prog 17 #[.slice A len cap] w fun e w' => e = .returned (.bool true) ∧ Below w.heap.size w w' := by
  have hm' := hm
  unfold maxLen at hm'
  by_cases hbig : 1048576 < len
  · go_enter Try.func17, Try.ntmps17
    go_wp2_with fail
    go_ret
    exact ⟨rfl, Below.refl _ _⟩
  · go_enter Try.func17, Try.ntmps17
    go_wp2_with fail
    refine (drawJoin hs (Nat.le_refl _) hc hm).mono ?_
    rintro e w1 ⟨b1, c1, l, rfl, ho1, hl9, hbd, hb1⟩
    have R1 := Row.made ho1
    have HBD := hide hbd
    clear ho1 hs hbd
    go_wp2_with fail
    refine (impl_join l _ _ _ _ _ rfl R1.prs (Nat.le_refl _) (by omega)).mono ?_
    rintro e w2 (⟨hj, rfl, hb2⟩ | ⟨hj, b2, c2, rfl, ho2, hb2⟩)
    · have G : Row w2 w1.heap.size w2.heap.size none 0 0 [] := Row.nil w2 w1
      have R1 := R1.below hb2
      have H2 := bto hb1 hb2
      clear HBD
      go_wp2_with fail
      refine (spec_join l _ _ _ _ _ rfl R1.prs (Nat.le_refl _)).mono ?_
      rintro e w3 ⟨b3, c3, rfl, ho3, hb3⟩
      rw [hj] at ho3 ⊢
      simp only [Bool.false_eq_true, if_false, List.length_nil] at ho3 ⊢
      have S := Row.made ho3
      have G := G.below hb3
      have H3 := bto H2 hb3
      clear ho3 R1 hj
      go_wp2_with fail
      refine (sameR_any [] _ _ _ _ _ _ _ rfl G.prs S.prs (Nat.le_refl _) (by simp)).mono ?_
      rintro e w4 ⟨rfl, hb4⟩
      have S := S.below hb4
      have G := G.below hb4
      have H4 := bto H3 hb4
      go_wp2_with fail
      refine (sameR_any [] _ _ _ _ _ _ _ rfl G.prs S.prs (Nat.le_refl _) (by simp)).mono ?_
      rintro e w5 ⟨rfl, hb5⟩
      go_wp2_with fail
      go_ret
      exact ⟨rfl, bto H4 hb5⟩
    · obtain ⟨hjj, hself, hrv, hlen⟩ := joinS_ok hj
      have HJJ := hide hjj
      have HSELF := hide hself
      have HRV := hide hrv
      have HJ := hide hj
      have G := Row.made ho2
      have R1 := R1.below hb2
      have H2 := bto hb1 hb2
      clear ho2 hjj hself hrv
      go_wp2_with fail
      refine (spec_join l _ _ _ _ _ rfl R1.prs (Nat.le_refl _)).mono ?_
      rintro e w3 ⟨b3, c3, rfl, ho3, hb3⟩
      rw [hj] at ho3 ⊢
      simp only [if_true] at ho3 ⊢
      have S := Row.made ho3
      have R1 := R1.below hb3
      have G := G.below hb3
      have H3 := bto H2 hb3
      clear ho3 hj
      go_wp2_with fail
      refine (sameR_any (joinS l) _ _ _ _ _ _ _ rfl G.prs S.prs (Nat.le_refl _) (by omega)).mono ?_
      rintro e w4 ⟨rfl, hb4⟩
      have R1 := R1.below hb4
      have G := G.below hb4
      have H4 := bto H3 hb4
      clear S
      have hv := hide R1.prs.view'
      have t1 := R1.top b1 rfl
      have hs4 := hb4.size
      have hs3 := hb3.size
      have hs2 := hb2.size
      obtain ⟨h8, hall⟩ := joinOk_in HJ.out
      have HALL := hide hall
      have HG := hide G
      have H4' := hide H4
      clear R1 G HJJ HSELF HBD hb1 hb2 hb3 hb4 H2 H3 H4 hall
      go_wp2_with fail
      go_loopw [8, 9, 10] (fun u v i wr => ∃ k : Nat, k ≤ l.length ∧ i = .int .i64 k ∧ u = .int .i64 (tot (l.take k)) ∧ v = .int .i64 (mst (l.take k)) ∧ Below w4.heap.size w4 wr) (fun _ _ i _ => l.length - (intOf i).toNat)
      case atStart => exact ⟨0, by omega, rfl, rfl, rfl, Below.refl _ _⟩
      case round =>
        obtain ⟨k, hk, rfl, rfl, rfl, hbw⟩ := hrel
        have hsw := hbw.size
        obtain ⟨t1', t2'⟩ := tot_take_bd' HALL.out k h8
        by_cases hlt : k < l.length
        · obtain ⟨x, y, hxy⟩ := pair_ex l k
          rcases hv.out with h0 | ⟨b0, o0, e0, hb0, hcs⟩
          · omega
          cases e0
          obtain ⟨d0, d1⟩ := hcs k hlt
          rw [hxy] at d0 d1
          replace d0 := (hbw.cell (p := ⟨b1, 0 + k * 2, none⟩) (by show b1 < _; omega)).trans d0
          replace d1 := (hbw.cell (p := ⟨b1, 0 + k * 2 + 1, none⟩) (by show b1 < _; omega)).trans d1
          simp only [Nat.zero_add] at d0 d1
          have hn1 : b1 < wr.heap.size := by omega
          have HTk := hide (tot_take hlt hxy)
          have HMk := hide (mst_take hlt hxy)
          obtain ⟨q1, q2, q3⟩ := rB_bds HALL.out hlt hxy
          clear hcs hxy
          generalize tot (l.take k) = T at HTk t1' t2' ⊢
          generalize mst (l.take k) = M at HMk ⊢
          go_wp2_with fail
          refine region_below (by kernel_rfl) (by kernel_rfl) ?_
          repeat (go_big_quiet_step (fail))
          refine wpQuiet_nil ?_
          rintro wq ⟨⟨_, hq⟩, rfl⟩
          have d0 := (hq.cell (p := ⟨b1, k * 2, none⟩) hn1).trans d0
          have d1 := (hq.cell (p := ⟨b1, k * 2 + 1, none⟩) hn1).trans d1
          have hn2 : b1 < wq.heap.size := by have := hq.size; omega
          go_wp2_with fail
          refine region_below (by kernel_rfl) (by kernel_rfl) ?_
          repeat (go_big_quiet_step (fail))
          refine wpQuiet_nil ?_
          rintro wz ⟨⟨_, hz⟩, rfl⟩
          go_wp2_with fail
          go_roundw
          case rel => exact ⟨k + 1, by omega, by go_num, by rw [HTk.out]; exact congrArg (Value.int .i64) (by omega), by rw [HMk.out], bto (bto hbw hq) hz⟩
          case measure => simp [intOf]; omega
        · obtain rfl : k = l.length := by omega
          have HTe := hide (show tot (l.take l.length) = tot l by rw [List.take_of_length_le (Nat.le_refl _)])
          rw [HTe.out, List.take_length]
          have HL := hide (show tot (joinS l) ≤ tot l from (joinS_law l HALL.out).2.2.1)
          have HM := hide (show mst l ≤ tot (joinS l) from mst_le (tot_bd (joinS_law l HALL.out).1.1).1 fun r hr => join_most HALL.out hr)
          have G := HG.out.below hbw
          have H5 := bto H4'.out hbw
          go_wp2_with fail
          refine (impl_tot (joinS l) _ _ _ _ _ rfl G.prs (Nat.le_refl _)).mono ?_
          rintro e w6 ⟨rfl, hb6⟩
          rw [rtot_yes HRV.out]
          have g1 : decide (tot (joinS l) ≤ tot l) = true := by rw [decide_eq_true_iff]; exact HL.out
          have g2 : decide (mst l ≤ tot (joinS l)) = true := by rw [decide_eq_true_iff]; exact HM.out
          go_wp2_with fail
          go_ret
          exact ⟨rfl, bto H5 hb6⟩
end Go.Proofs.Ytakccgajnmkplaa
