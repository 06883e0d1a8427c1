/- The law FnTotal returns true. -/
import Derived.Test.YtakccgajnmkplaaDrV
namespace Go.Proofs.Ytakccgajnmkplaa
open Go.RowKit
attribute [local go_sem] lt_cell

set_option maxHeartbeats 1000000 in
theorem w_FnTotal (w : World) (A : Option Addr) (len cap : Nat) (hs : Src w.heap.size w A len) (hc : len ≤ cap) (hm : cap ≤ maxLen) :
    Calls Try.prog 7 #[.slice A len cap] w fun e w' => e = .returned (.bool true) ∧ Below w.heap.size w w' := by
  unfold maxLen at hm
  by_cases hbig : 1048576 < len
  · go_enter Try.func7, Try.ntmps7
    go_wp2_with fail
    go_ret
    exact ⟨rfl, Below.refl _ _⟩
  · go_enter Try.func7, Try.ntmps7
    go_wp2_with fail
    refine (drawTotal hs (Nat.le_refl _) hc hm).mono ?_
    rintro e w1 ⟨b, cap1, l, rfl, ho1, hl9, hbd, hb1⟩
    have hs1 := hb1.size
    have P1 := Prs.own ho1
    have HO := hide ho1
    clear ho1 hbd
    go_wp2_with fail
    refine (impl_tot l _ _ _ _ _ rfl P1 (Nat.le_refl _)).mono ?_
    rintro e w2 ⟨rfl, hb2⟩
    have hs2 := hb2.size
    go_wp2_with fail
    refine (spec_tot l _ _ _ _ _ rfl (P1.below hb2) hs2 (by omega)).mono ?_
    rintro e w3 ⟨rfl, hb3⟩
    have hb13 := bto hb2 hb3
    have HO3 := own_below HO.out hb13
    have H3 := bto hb1 hb13
    have hlt3 := (HO3.lt b rfl).2
    rcases rvB_bool l with hv | hv
    · obtain ⟨h8, ha⟩ := rvB_in hv
      have HT := hide (rtot_yes hv)
      have hge := tot_ge (asc_of ha).1
      have hbt := tot_bd (asc_of ha).1
      have hbt2 : tot l ≤ 2524304563200000 := by omega
      have HA := hide ha
      rw [HT.out]
      have g2 : (0 : Int) ≤ tot l := hbt.1
      have hcells : Hid (∀ k, k < l.length → w3.cell? ⟨b, k * 2, none⟩ = some (.int .i64 (l.getD k (0, 0)).1) ∧ w3.cell? ⟨b, k * 2 + 1, none⟩ = some (.int .i64 (l.getD k (0, 0)).2)) := hide fun k hk => by
        have hg := flatP_get l k hk
        exact ⟨(HO3.cellAt (k * 2) (by omega)).trans hg.1, (HO3.cellAt (k * 2 + 1) (by omega)).trans hg.2⟩
      clear P1 HO3 hv ha hbt hb2 hb3 hs hc
      go_wp2_with fail
      go_loopw [6, 7] (fun s i wr => ∃ k : Nat, k ≤ l.length ∧ i = .int .i64 k ∧ s = .int .i64 (tot (l.take k)) ∧ Below w3.heap.size w3 wr) (fun _ i _ => l.length - (intOf i).toNat)
      case atStart => exact ⟨0, by omega, rfl, rfl, Below.refl _ _⟩
      case round =>
        obtain ⟨k, hk, rfl, rfl, hb⟩ := hrel
        have htb := tot_take_bd HA.out k h8
        have hsr := hb.size
        by_cases hlt : k < l.length
        · obtain ⟨x, y, hxy⟩ := pair_ex l k
          have hbd := asc_bds HA.out hlt hxy
          have HTk := hide (tot_take hlt hxy)
          have c0 := (hb.cell (p := ⟨b, k * 2, none⟩) hlt3).trans (hcells.out k hlt).1
          have c1 := (hb.cell (p := ⟨b, k * 2 + 1, none⟩) hlt3).trans (hcells.out k hlt).2
          rw [hxy] at c0 c1
          clear hxy
          have hn1 : b < wr.heap.size := by omega
          go_wp2_with fail
          refine region_below (by kernel_rfl) (by kernel_rfl) ?_
          repeat (go_big_quiet_step (fail))
          refine wpQuiet_nil ?_
          rintro _ ⟨⟨wq, hq⟩, rfl⟩
          go_wp2
          go_roundw
          case rel => exact ⟨k + 1, by omega, by go_num, by rw [HTk.out]; exact congrArg (Value.int .i64) (by omega), bto hb hq⟩
          case measure => simp [intOf]; omega
        · obtain rfl : k = l.length := by omega
          have HTe := hide (show tot (l.take l.length) = tot l by rw [List.take_of_length_le (Nat.le_refl _)])
          rw [HTe.out]
          have g3 : decide ((l.length : Int) ≤ tot l) = true := by rw [decide_eq_true_iff]; exact hge
          go_wp2
          go_ret
          exact ⟨rfl, bto H3 hb⟩
    · have HT := hide (rtot_no hv)
      rw [HT.out]
      clear hv
      go_wp2_with fail
      go_ret
      exact ⟨rfl, H3⟩
end Go.Proofs.Ytakccgajnmkplaa
