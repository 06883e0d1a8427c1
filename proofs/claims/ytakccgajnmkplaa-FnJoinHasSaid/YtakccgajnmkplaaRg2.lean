/- Contracts: valid ranges (the program's and the reference's). -/
import Derived.Test.YtakccgajnmkplaaRg1
import Derived.Test.YtakccgajnmkplaaQt
namespace Go.Proofs.Ytakccgajnmkplaa
open Go.RowKit
attribute [local go_sem] lt_cell

theorem rvB_len {l : List R2} (h : 8 < l.length) : rvB l = false := by unfold rvB; simp; omega
theorem rvB_bad {l : List R2} {k : Nat} (hk : k < l.length) (h : okAt l k = false) : rvB l = false := by unfold rvB; rw [ascB_not hk h]; simp
theorem rvB_good {l : List R2} (h : l.length ≤ 8) (hk : ∀ i, i < l.length → okAt l i = true) : rvB l = true := by unfold rvB; rw [ascB_of hk]; simp [h]

set_option maxHeartbeats 1000000 in
theorem impl_rv (l : List R2) (len cap B : Nat) (A : Option Addr) (w : World) (hl : l.length = len) (hP : Prs B w A l) (hB : B ≤ w.heap.size) :
    Calls Try.prog 21 #[.slice A len cap] w (RetB (rvB l) w) := by
  by_cases h8 : 8 < len
  · have HR := hide (rvB_len (l := l) (by omega))
    clear hP
    go_enter Try.func21, Try.ntmps21
    go_wp2
    go_ret
    exact ⟨by rw [HR.out]; rfl, Below.refl _ _⟩
  by_cases h0 : len = 0
  · have HR := hide (rvB_good (l := l) (by omega) (by omega))
    subst h0
    clear hP hl
    go_enter Try.func21, Try.ntmps21
    go_wp2
    refine wp_loop_rounds 1 ?_
    rw [rounds_succ]
    go_wp2
    go_ret
    exact ⟨by rw [HR.out]; rfl, Below.refl _ _⟩
  obtain ⟨b, o, rfl, hbB, hc⟩ := hP (by omega)
  have HC := hide hc
  have HL := hide hl
  have HB := hide (show b < w.heap.size by omega)
  clear hc hP
  have h8' : len ≤ 8 := by omega
  clear hl
  go_enter Try.func21, Try.ntmps21
  go_wp2
  go_loopw [10] (fun i wr => ∃ k : Nat, k ≤ len ∧ i = .int .i64 k ∧ (∀ j, j < k → okAt l j = true) ∧ Below w.heap.size w wr) (fun i _ => len - (intOf i).toNat)
  case atStart => exact ⟨0, by omega, rfl, by omega, Below.refl _ _⟩
  case round =>
    obtain ⟨k, hk, rfl, hok, hb⟩ := hrel
    have HK := hide hok
    clear hok
    by_cases hlt : k < len
    · obtain ⟨x, y, hxy⟩ := pair_ex l k
      obtain ⟨x', y', hxy'⟩ := pair_ex l (k - 1)
      have c0 := (hb.cell (p := ⟨b, o + k * 2, none⟩) HB.out).trans (HC.out k (by rw [HL.out]; omega)).1
      have c1 := (hb.cell (p := ⟨b, o + k * 2 + 1, none⟩) HB.out).trans (HC.out k (by rw [HL.out]; omega)).2
      have c2 := (hb.cell (p := ⟨b, o + (k - 1) * 2 + 1, none⟩) HB.out).trans (HC.out (k - 1) (by rw [HL.out]; omega)).2
      rw [hxy] at c0 c1
      rw [hxy'] at c2
      have HX := hide hxy
      have HX' := hide hxy'
      have hbw := HB.out
      have hsz := hb.size
      clear hxy hxy'
      have hn1 : b ≤ wr.heap.size := by omega
      have hn2 : b < wr.heap.size := by omega
      cases hr : rB (x, y) with
      | false =>
        have HR := hide (rvB_bad (l := l) (k := k) (by rw [HL.out]; omega) (by
          by_cases e : k = 0
          · subst e; rw [okAt_0 HX.out, hr]
          · rw [okAt_s (by omega) HX.out HX'.out, hr]; rfl))
        go_wp2_with fail
        refine region_below (by kernel_rfl) (by kernel_rfl) ?_
        repeat (go_big_quiet_step ((go_at_call 41; exact lt_call (rangeValid_any _ _ _))))
        refine wpQuiet_nil ?_
        rintro wq ⟨⟨_, hq⟩, rfl⟩
        go_wp2
        go_ret
        exact ⟨by rw [HR.out]; rfl, bto (bal hb _) hq⟩
      | true =>
        by_cases hk0 : k = 0
        · clear c2
          subst hk0
          simp only [Nat.zero_mul, Nat.add_zero] at c0 c1
          have HO := hide ((okAt_0 HX.out).trans hr)
          go_wp2_with fail
          refine region_below (by kernel_rfl) (by kernel_rfl) ?_
          repeat (go_big_quiet_step ((go_at_call 41; exact lt_call (rangeValid_any _ _ _))))
          refine wpQuiet_nil ?_
          rintro wq ⟨⟨_, hq⟩, rfl⟩
          go_wp2
          go_roundw
          case rel => exact ⟨1, by omega, by go_num, upto (by omega) HO.out, bto (bal hb _) hq⟩
          case measure => simp [intOf]; omega
        · have hp : 0 < k := by omega
          have g1 : decide ((0 : Int) < (k : Int)) = true := by simp; omega
          have g2 : (0 : Int) ≤ (k : Int) - 1 := by omega
          have g3 : ((k : Int) - 1).toNat = k - 1 := by omega
          by_cases hlt2 : y' < x
          · have HO := hide (show okAt l k = true by rw [okAt_s hp HX.out HX'.out, hr]; simp [hlt2])
            have g4 : decide (x ≤ y') = false := by simp; omega
            go_wp2_with fail
            refine region_below (by kernel_rfl) (by kernel_rfl) ?_
            repeat (go_big_quiet_step ((go_at_call 41; exact lt_call (rangeValid_any _ _ _))))
            refine wpQuiet_nil ?_
            rintro wq ⟨⟨_, hq⟩, rfl⟩
            go_wp2
            go_roundw
            case rel => exact ⟨k + 1, by omega, by go_num, upto HK.out HO.out, bto (bal hb _) hq⟩
            case measure => simp [intOf]; omega
          · have HR := hide (rvB_bad (l := l) (k := k) (by rw [HL.out]; omega) (by rw [okAt_s hp HX.out HX'.out, hr]; simp [hlt2]))
            have g4 : decide (x ≤ y') = true := by simp; omega
            go_wp2_with fail
            refine region_below (by kernel_rfl) (by kernel_rfl) ?_
            repeat (go_big_quiet_step ((go_at_call 41; exact lt_call (rangeValid_any _ _ _))))
            refine wpQuiet_nil ?_
            rintro wq ⟨⟨_, hq⟩, rfl⟩
            go_wp2
            go_ret
            exact ⟨by rw [HR.out]; rfl, bto (bal hb _) hq⟩
    · obtain rfl : k = len := by omega
      have HR := hide (rvB_good (l := l) (by rw [HL.out]; omega) (by rw [HL.out]; exact HK.out))
      go_wp2
      go_ret
      exact ⟨by rw [HR.out]; rfl, hb⟩

set_option maxHeartbeats 1000000 in
theorem l32Ascend_any (l : List R2) (len cap B : Nat) (A : Option Addr) (w : World) (hl : l.length = len) (hP : Prs B w A l) (hB : B ≤ w.heap.size) (hm : len ≤ 2305843009213693951) :
    Calls Try.prog 39 #[.slice A len cap] w (RetB (ascB l) w) := by
  by_cases h0 : len = 0
  · have HR := hide (ascB_of (l := l) (by omega))
    subst h0
    clear hP hl
    go_enter Try.func39, Try.ntmps39
    go_wp2
    refine wp_loop_rounds 1 ?_
    rw [rounds_succ]
    go_wp2
    go_ret
    exact ⟨by rw [HR.out]; rfl, Below.refl _ _⟩
  obtain ⟨b, o, rfl, hbB, hc⟩ := hP (by omega)
  have HC := hide hc
  have HL := hide hl
  have HB := hide (show b < w.heap.size by omega)
  clear hc hP
  clear hl
  go_enter Try.func39, Try.ntmps39
  go_wp2
  go_loopw [3] (fun i wr => ∃ k : Nat, k ≤ len ∧ i = .int .i64 k ∧ (∀ j, j < k → okAt l j = true) ∧ Below w.heap.size w wr) (fun i _ => len - (intOf i).toNat)
  case atStart => exact ⟨0, by omega, rfl, by omega, Below.refl _ _⟩
  case round =>
    obtain ⟨k, hk, rfl, hok, hb⟩ := hrel
    have HK := hide hok
    clear hok
    by_cases hlt : k < len
    · obtain ⟨x, y, hxy⟩ := pair_ex l k
      obtain ⟨x', y', hxy'⟩ := pair_ex l (k - 1)
      have c0 := (hb.cell (p := ⟨b, o + k * 2, none⟩) HB.out).trans (HC.out k (by rw [HL.out]; omega)).1
      have c1 := (hb.cell (p := ⟨b, o + k * 2 + 1, none⟩) HB.out).trans (HC.out k (by rw [HL.out]; omega)).2
      have c2 := (hb.cell (p := ⟨b, o + (k - 1) * 2 + 1, none⟩) HB.out).trans (HC.out (k - 1) (by rw [HL.out]; omega)).2
      rw [hxy] at c0 c1
      rw [hxy'] at c2
      have HX := hide hxy
      have HX' := hide hxy'
      have hbw := HB.out
      have hsz := hb.size
      clear hxy hxy'
      have hn1 : b ≤ wr.heap.size := by omega
      have hn2 : b < wr.heap.size := by omega
      cases hr : rB (x, y) with
      | false =>
        have HR := hide (ascB_not (l := l) (k := k) (by rw [HL.out]; omega) (by
          by_cases e : k = 0
          · subst e; rw [okAt_0 HX.out, hr]
          · rw [okAt_s (by omega) HX.out HX'.out, hr]; rfl))
        go_wp2_with fail
        refine region_below (by kernel_rfl) (by kernel_rfl) ?_
        repeat (go_big_quiet_step ((go_at_call 56; exact lt_call (l32Range_any _ _ _))))
        refine wpQuiet_nil ?_
        rintro wq ⟨⟨_, hq⟩, rfl⟩
        go_wp2
        go_ret
        exact ⟨by rw [HR.out]; rfl, bto hb hq⟩
      | true =>
        by_cases hk0 : k = 0
        · clear c2
          subst hk0
          simp only [Nat.zero_mul, Nat.add_zero] at c0 c1
          have HO := hide ((okAt_0 HX.out).trans hr)
          go_wp2_with fail
          refine region_below (by kernel_rfl) (by kernel_rfl) ?_
          repeat (go_big_quiet_step ((go_at_call 56; exact lt_call (l32Range_any _ _ _))))
          refine wpQuiet_nil ?_
          rintro wq ⟨⟨_, hq⟩, rfl⟩
          go_wp2
          go_roundw
          case rel => exact ⟨1, by omega, by go_num, upto (by omega) HO.out, bto hb hq⟩
          case measure => simp [intOf]; omega
        · have hp : 0 < k := by omega
          have g1 : decide ((0 : Int) < (k : Int)) = true := by simp; omega
          have g2 : (0 : Int) ≤ (k : Int) - 1 := by omega
          have g3 : ((k : Int) - 1).toNat = k - 1 := by omega
          by_cases hlt2 : y' < x
          · have HO := hide (show okAt l k = true by rw [okAt_s hp HX.out HX'.out, hr]; simp [hlt2])
            have g4 : decide (x ≤ y') = false := by simp; omega
            go_wp2_with fail
            refine region_below (by kernel_rfl) (by kernel_rfl) ?_
            repeat (go_big_quiet_step ((go_at_call 56; exact lt_call (l32Range_any _ _ _))))
            refine wpQuiet_nil ?_
            rintro wq ⟨⟨_, hq⟩, rfl⟩
            go_wp2
            go_roundw
            case rel => exact ⟨k + 1, by omega, by go_num, upto HK.out HO.out, bto hb hq⟩
            case measure => simp [intOf]; omega
          · have HR := hide (ascB_not (l := l) (k := k) (by rw [HL.out]; omega) (by rw [okAt_s hp HX.out HX'.out, hr]; simp [hlt2]))
            have g4 : decide (x ≤ y') = true := by simp; omega
            go_wp2_with fail
            refine region_below (by kernel_rfl) (by kernel_rfl) ?_
            repeat (go_big_quiet_step ((go_at_call 56; exact lt_call (l32Range_any _ _ _))))
            refine wpQuiet_nil ?_
            rintro wq ⟨⟨_, hq⟩, rfl⟩
            go_wp2
            go_ret
            exact ⟨by rw [HR.out]; rfl, bto hb hq⟩
    · obtain rfl : k = len := by omega
      have HR := hide (ascB_of (l := l) (by rw [HL.out]; exact HK.out))
      go_wp2
      go_ret
      exact ⟨by rw [HR.out]; rfl, hb⟩

end Go.Proofs.Ytakccgajnmkplaa
