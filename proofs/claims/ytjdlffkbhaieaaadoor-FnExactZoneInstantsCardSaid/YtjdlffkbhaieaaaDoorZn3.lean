/- Contracts: valid zones (the reference's). -/
import Derived.Test.YtjdlffkbhaieaaaDoorZn2
namespace Go.Proofs.YtjdlffkbhaieaaaDoor
open Go.RowKit
attribute [local go_sem] lt_cell

set_option maxHeartbeats 2000000 in
theorem spec_zv (o : Int) (l : List R2) (len cap B : Nat) (A : Option Addr) (w : World) (hl : l.length = len) (hP : Prs B w A l) (hB : B ≤ w.heap.size) :
    Calls Tryd.prog 31 #[.agg #[.int .i64 o, .slice A len cap]] w (RetB (zvB o l) w) := by
  cases ho : offB o with
  | false =>
    have HR := hide (zv_off (o := o) (l := l) ho)
    clear hP hl
    go_enter Tryd.func31, Tryd.ntmps31
    go_wp2_with (go_at_call 63; refine (l6In_off _ _).mono ?_; rintro e w' ⟨rfl, rfl⟩)
    go_ret
    exact ⟨by rw [HR.out]; rfl, bal (Below.refl _ _) _⟩
  | true =>
    by_cases h6 : 6 < len
    · have HR := hide (zv_len (o := o) (l := l) (by omega))
      clear hP hl
      go_enter Tryd.func31, Tryd.ntmps31
      go_wp2_with (go_at_call 63; refine (l6In_off _ _).mono ?_; rintro e w' ⟨rfl, rfl⟩)
      go_ret
      exact ⟨by rw [HR.out]; rfl, bal (Below.refl _ _) _⟩
    have HL := hide hl
    have HO := hide ho
    have HV := hide hP.view
    have hs : len = 0 ∨ ∃ b o, A = some ⟨b, o, none⟩ := by
      rcases hP.view with h | ⟨b, o, h, _⟩
      · exact .inl (by omega)
      · exact .inr ⟨b, o, h⟩
    clear hP hl
    have main : ∀ A' : Option Addr, A' = A → (len = 0 ∨ ∃ b o, A' = some ⟨b, o, none⟩) → Calls Tryd.prog 31 #[.agg #[.int .i64 o, .slice A' len cap]] w (RetB (zvB o l) w) := by
      intro A' hA' hs
      have HA := hide hA'
      clear hA'
      go_enter Tryd.func31, Tryd.ntmps31
      go_wp2_with (go_at_call 63; refine (l6In_off _ _).mono ?_; rintro e w' ⟨rfl, rfl⟩)
      have hx0 := hide (Blk.new w 36 #[.int .i64 o, .slice A' len cap])
      have hb0 := bal (Below.refl w.heap.size w) (.cells #[.int .i64 o, .slice A' len cap] 36)
      go_loopw [3, 4] (fun u i wr => ∃ (k : Nat) (p : Int), k ≤ len ∧ i = .int .i64 k ∧ u = .int .i64 p ∧ Hid (p = oA o l k) ∧ Hid (Blk wr w.heap.size 36 #[.int .i64 o, .slice A' len cap]) ∧ Hid (∀ j, j < k → zokAt o l j = true) ∧ Below w.heap.size w wr) (fun _ i _ => len - (intOf i).toNat)
      case atStart => exact ⟨0, o, by omega, rfl, rfl, hide (oA_0 o l).symm, hx0, hide (by omega), hb0⟩
      case round =>
        obtain ⟨k, p, hk, rfl, rfl, hp, hX, HK, hb⟩ := hrel
        have hsz := hb.size
        have x0 := hX.out.cell 0
        have x1 := hX.out.cell 1
        have xl := hX.out.lt
        simp at x0 x1
        by_cases hlt : k < len
        · rcases hs with hs | ⟨b0, o0, rfl⟩
          · omega
          have hcs : ∀ i, i < l.length → b0 < B ∧ w.cell? ⟨b0, o0 + i * 2, none⟩ = some (.int .i64 (l.getD i (0, 0)).1) ∧ w.cell? ⟨b0, o0 + i * 2 + 1, none⟩ = some (.int .i64 (l.getD i (0, 0)).2) := by
            rcases HV.out with h | ⟨b1, o1, e1, h1, h2⟩
            · intro i hi; omega
            · rw [← HA.out] at e1
              cases e1
              exact fun i hi => ⟨h1, h2 i hi⟩
          obtain ⟨x, y, hxy⟩ := pair_ex l k
          obtain ⟨hbB, c0, c1⟩ := hcs k (by rw [HL.out]; exact hlt)
          rw [hxy] at c0 c1
          have hbw : b0 < w.heap.size := by omega
          replace c0 := (hb.cell (p := ⟨b0, o0 + k * 2, none⟩) hbw).trans c0
          replace c1 := (hb.cell (p := ⟨b0, o0 + k * 2 + 1, none⟩) hbw).trans c1
          have hkl : Hid (k < l.length) := hide (by rw [HL.out]; exact hlt)
          have HZ := hide (zk_eq (o := o) hxy)
          have HX := hide hxy
          have HP0 := hide (fun i hi => (hcs i hi).2.1)
          clear hxy hcs
          rw [← hp.out] at HZ
          have n1 : b0 < wr.heap.size := by omega
          have n2 : b0 ≤ wr.heap.size := by omega
          have n3 : w.heap.size ≤ wr.heap.size := by omega
          cases h1 : insB x with
          | false =>
            have HR := hide (zv_bad hkl.out (HZ.out.trans (by rw [h1]; rfl)))
            go_wp2_with fail
            refine region_below (by kernel_rfl) (by kernel_rfl) ?_
            repeat (go_big_quiet_step (first | (go_at_call 43; exact lt_same (l12Ok_any _ _)) | (go_at_call 63; exact lt_same (l6In_off _ _))))
            refine wpQuiet_nil ?_
            rintro wq ⟨⟨_, hq⟩, rfl⟩
            go_wp2
            go_ret
            exact ⟨by rw [HR.out]; rfl, bto (bal hb _) hq⟩
          | true =>
            have HI := hide h1
            cases h2 : offB y with
            | false =>
              have HR := hide (zv_bad hkl.out (HZ.out.trans (by rw [h1, h2]; rfl)))
              go_wp2_with fail
              refine region_below (by kernel_rfl) (by kernel_rfl) ?_
              repeat (go_big_quiet_step (first | (go_at_call 43; exact lt_same (l12Ok_any _ _)) | (go_at_call 63; exact lt_same (l6In_off _ _))))
              refine wpQuiet_nil ?_
              rintro wq ⟨⟨_, hq⟩, rfl⟩
              go_wp2
              go_ret
              exact ⟨by rw [HR.out]; rfl, bto (bal hb _) hq⟩
            | true =>
              cases h3 : y == p with
              | true =>
                have HR := hide (zv_bad hkl.out (HZ.out.trans (by rw [h1, h2, h3]; rfl)))
                go_wp2_with fail
                refine region_below (by kernel_rfl) (by kernel_rfl) ?_
                repeat (go_big_quiet_step (first | (go_at_call 43; exact lt_same (l12Ok_any _ _)) | (go_at_call 63; exact lt_same (l6In_off _ _))))
                refine wpQuiet_nil ?_
                rintro wq ⟨⟨_, hq⟩, rfl⟩
                go_wp2
                go_ret
                exact ⟨by rw [HR.out]; rfl, bto (bal hb _) hq⟩
              | false =>
                by_cases hk0 : k = 0
                · have HG := hide (show zokAt o l k = true from HZ.out.trans (by rw [h1, h2, h3, hk0]; rfl))
                  subst hk0
                  simp only [Nat.zero_mul, Nat.add_zero] at c0 c1
                  go_wp2_with fail
                  refine region_below (by kernel_rfl) (by kernel_rfl) ?_
                  repeat (go_big_quiet_step (first | (go_at_call 43; exact lt_same (l12Ok_any _ _)) | (go_at_call 63; exact lt_same (l6In_off _ _))))
                  refine wpQuiet_nil ?_
                  rintro wq ⟨⟨_, hq⟩, rfl⟩
                  have y1 : wq.cell? ⟨wr.heap.size, 1, none⟩ = some (.int .i64 y) := ((bcell hq).1 wr.heap.size 1 (by simp)).trans (World.cell?_alloc_new wr #[.int .i64 x, .int .i64 y] _ 1)
                  go_wp2
                  go_roundw
                  case rel =>
                    refine ⟨0 + 1, y, by omega, by go_num, rfl, hide (by rw [oA_succ hkl.out, HX.out]), hide ((hX.out.alloc _).below hq (by simp; omega)), hide (upto HK.out HG.out), bto (bal hb _) hq⟩
                  case measure => simp [intOf]; omega
                · have hkp : 0 < k := by omega
                  obtain ⟨q, q', hqq⟩ := pair_ex l (k - 1)
                  have hqe : q = tA l (k - 1) := by unfold tA; rw [hqq]
                  have hqr := zk_ins (HK.out (k - 1) (by omega))
                  rw [← hqe] at hqr
                  have c2 := HP0.out (k - 1) (by rw [HL.out]; omega)
                  rw [hqq] at c2
                  replace c2 := (hb.cell (p := ⟨b0, o0 + (k - 1) * 2, none⟩) hbw).trans c2
                  have g4 : (0 : Int) ≤ (k : Int) - 1 := by omega
                  have g5 : ((k : Int) - 1).toNat = k - 1 := by omega
                  have g6 : (k : Int) - 1 < (len : Int) := by omega
                  clear hqq
                  have hxr := ins_iff.1 h1
                  have g1 : decide ((0 : Int) < (k : Int)) = true := by simp; omega
                  have g2 : IntKind.i64.wrap (x - q) = x - q := IntWalk.i64_in _ (by omega)
                  have hkb : (k == 0) = false := by simp; omega
                  by_cases hg : 172800000 < x - q
                  · have HG := hide (show zokAt o l k = true from HZ.out.trans (by rw [h1, h2, h3, hkb, ← hqe]; simp [hg]))
                    have g3 : decide (x - q ≤ 172800000) = false := by simp; omega
                    clear hqe hqr hxr hkb
                    go_wp2_with fail
                    refine region_below (by kernel_rfl) (by kernel_rfl) ?_
                    repeat (go_big_quiet_step (first | (go_at_call 43; exact lt_same (l12Ok_any _ _)) | (go_at_call 63; exact lt_same (l6In_off _ _))))
                    refine wpQuiet_nil ?_
                    rintro wq ⟨⟨_, hq⟩, rfl⟩
                    have y1 : wq.cell? ⟨wr.heap.size, 1, none⟩ = some (.int .i64 y) := ((bcell hq).1 wr.heap.size 1 (by simp)).trans (World.cell?_alloc_new wr #[.int .i64 x, .int .i64 y] _ 1)
                    go_wp2
                    go_roundw
                    case rel =>
                      refine ⟨k + 1, y, by omega, by go_num, rfl, hide (by rw [oA_succ hkl.out, HX.out]), hide ((hX.out.alloc _).below hq (by simp; omega)), hide (upto HK.out HG.out), bto (bal hb _) hq⟩
                    case measure => simp [intOf]; omega
                  · have HR := hide (zv_bad hkl.out (HZ.out.trans (by rw [h1, h2, h3, hkb, ← hqe]; simp [hg])))
                    have g3 : decide (x - q ≤ 172800000) = true := by simp; omega
                    clear hqe hqr hxr hkb
                    go_wp2_with fail
                    refine region_below (by kernel_rfl) (by kernel_rfl) ?_
                    repeat (go_big_quiet_step (first | (go_at_call 43; exact lt_same (l12Ok_any _ _)) | (go_at_call 63; exact lt_same (l6In_off _ _))))
                    refine wpQuiet_nil ?_
                    rintro wq ⟨⟨_, hq⟩, rfl⟩
                    go_wp2
                    go_ret
                    exact ⟨by rw [HR.out]; rfl, bto (bal hb _) hq⟩
        · obtain rfl : k = len := by omega
          have HR := hide (zv_good (l := l) (by rw [HL.out]; omega) HO.out (by rw [HL.out]; exact HK.out))
          go_wp2
          go_ret
          exact ⟨by rw [HR.out]; rfl, hb⟩
    exact main A rfl hs
end Go.Proofs.YtjdlffkbhaieaaaDoor
