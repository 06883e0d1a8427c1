/- The law FnHas returns true. -/
import Derived.Test.YtakccgajnmkplaaDrV
namespace Go.Proofs.Ytakccgajnmkplaa
open Go.RowKit
attribute [local go_sem] lt_cell

theorem any_take {p : R2 → Bool} {l : List R2} {k : Nat} {r : R2} (hk : k < l.length) (e : l.getD k (0, 0) = r) : (l.take (k + 1)).any p = ((l.take k).any p || p r) := by
  have ex : l[k] = r := by simpa [List.getD, hk] using e
  rw [List.take_succ_eq_append_getElem hk, ex, List.any_append]
  simp

set_option maxHeartbeats 1000000 in
theorem w_FnHas (w : World) (A : Option Addr) (len cap : Nat) (hs : Src w.heap.size w A len) (hc : len ≤ cap) (hm : cap ≤ maxLen) :
    Calls Try.prog 8 #[.slice A len cap] w fun e w' => e = .returned (.bool true) ∧ Below w.heap.size w w' := by
  unfold maxLen at hm
  by_cases hbig : 1048576 < len
  · go_enter Try.func8, Try.ntmps8
    go_wp2_with fail
    go_ret
    exact ⟨rfl, Below.refl _ _⟩
  · go_enter Try.func8, Try.ntmps8
    go_wp2_with fail
    refine (drawHas hs (Nat.le_refl _) hc hm).mono ?_
    rintro e w1 ⟨b, cap1, l, n, rfl, ho1, hl9, hbd, hb1⟩
    have hs1 := hb1.size
    have P1 := Prs.own ho1
    have HO := hide ho1
    clear ho1 hbd
    go_wp2_with fail
    refine (impl_has l n _ _ _ _ _ rfl P1 (Nat.le_refl _) (by omega)).mono ?_
    rintro e w2 ⟨rfl, hb2⟩
    have hs2 := hb2.size
    go_wp2_with fail
    refine (spec_has l n _ _ _ _ _ rfl (P1.below hb2) hs2 (by omega)).mono ?_
    rintro e w3 ⟨rfl, hb3⟩
    have hs3 := hb3.size
    have hb13 := bto hb2 hb3
    go_wp2_with fail
    refine (spec_rv l _ _ _ _ _ rfl ((P1.below hb13)) (by omega) (by omega)).mono ?_
    rintro e w4 ⟨rfl, hb4⟩
    have hb14 := bto hb13 hb4
    have HO4 := own_below HO.out hb14
    have H4 := bto hb1 hb14
    have hlt4 := (HO4.lt b rfl).2
    rcases rvB_bool l with hv | hv
    · have HV := hide (show hasB l n = l.any (inR n) by unfold hasB; rw [hv]; rfl)
      have hcells : Hid (∀ k, k < l.length → w4.cell? ⟨b, k * 2, none⟩ = some (.int .i64 (l.getD k (0, 0)).1) ∧ w4.cell? ⟨b, k * 2 + 1, none⟩ = some (.int .i64 (l.getD k (0, 0)).2)) := hide fun k hk => by
        have hg := flatP_get l k hk
        exact ⟨(HO4.cellAt (k * 2) (by omega)).trans hg.1, (HO4.cellAt (k * 2 + 1) (by omega)).trans hg.2⟩
      clear P1 HO4 hb2 hb3 hb4 hs hc
      go_wp2_with fail
      go_loop [7, 8] (fun s i => ∃ (k : Nat) (sb : Bool), k ≤ l.length ∧ i = .int .i64 k ∧ s = .bool sb ∧ Hid (sb = (l.take k).any (inR n))) (fun _ i => l.length - (intOf i).toNat)
      case atStart => exact ⟨0, false, by omega, rfl, rfl, hide rfl⟩
      case round =>
        obtain ⟨k, sb, hk, rfl, rfl, hsb⟩ := hrel
        by_cases hlt : k < l.length
        · obtain ⟨x, y, hxy⟩ := pair_ex l k
          have HA := hide (any_take (p := inR n) hlt hxy)
          have c0 := (hcells.out k hlt).1
          have c1 := (hcells.out k hlt).2
          rw [hxy] at c0 c1
          clear hxy
          have HI := hide (show inR n (x, y) = (decide (x ≤ n) && decide (n < y)) from rfl)
          cases sb with
          | true =>
            go_wp2
            go_round
            case rel => exact ⟨k + 1, true, by omega, by go_num, rfl, hide (by rw [HA.out, ← hsb.out]; rfl)⟩
            case measure => simp [intOf]; omega
          | false =>
            by_cases h1 : x ≤ n
            · by_cases h2 : n < y
              · go_wp2
                go_round
                case rel => exact ⟨k + 1, true, by omega, by go_num, rfl, hide (by rw [HA.out, ← hsb.out, HI.out]; simp [h1, h2])⟩
                case measure => simp [intOf]; omega
              · go_wp2
                go_round
                case rel => exact ⟨k + 1, false, by omega, by go_num, rfl, hide (by rw [HA.out, ← hsb.out, HI.out]; simp; omega)⟩
                case measure => simp [intOf]; omega
            · go_wp2
              go_round
              case rel => exact ⟨k + 1, false, by omega, by go_num, rfl, hide (by rw [HA.out, ← hsb.out, HI.out]; simp [h1])⟩
              case measure => simp [intOf]; omega
        · obtain rfl : k = l.length := by omega
          have HE := hide (show hasB l n = sb by rw [HV.out, hsb.out, List.take_of_length_le (Nat.le_refl _)])
          rw [HE.out]
          go_wp2
          go_ret
          exact ⟨ret_bool (by simp), H4⟩
    · clear P1 HO4 hb2 hb3 hb4 hs hc
      go_wp2_with fail
      go_ret
      exact ⟨ret_bool (by simp), H4⟩
end Go.Proofs.Ytakccgajnmkplaa
