/- Contracts: valid zones (the program's). -/
import Derived.Test.YtjdlffkbhaieaaaDoorZn1
import Derived.Test.YtjdlffkbhaieaaaDoorQt
namespace Go.Proofs.YtjdlffkbhaieaaaDoor
open Go.RowKit
attribute [local go_sem] lt_cell

theorem zk_eq {o : Int} {l : List R2} {k : Nat} {x y : Int} (h : l.getD k (0, 0) = (x, y)) : zokAt o l k = (insB x && (offB y && (!(y == oA o l k) && (k == 0 || decide (172800000 < x - tA l (k - 1)))))) := by unfold zokAt oA tA; rw [h]
theorem zv_len {o : Int} {l : List R2} (h : 6 < l.length) : zvB o l = false := by unfold zvB; simp; omega
theorem zv_off {o : Int} {l : List R2} (h : offB o = false) : zvB o l = false := by unfold zvB; simp [h]
theorem zv_bad {o : Int} {l : List R2} {k : Nat} (hk : k < l.length) (h : zokAt o l k = false) : zvB o l = false := by unfold zvB; rw [zturns_not hk h]; simp
theorem zv_good {o : Int} {l : List R2} (h : l.length ≤ 6) (ho : offB o = true) (hk : ∀ i, i < l.length → zokAt o l i = true) : zvB o l = true := by unfold zvB; rw [zturns_of hk]; simp [h, ho]
theorem zk_ins {o : Int} {l : List R2} {k : Nat} (h : zokAt o l k = true) : -86400000 ≤ tA l k ∧ tA l k ≤ 315537984000000 := by
  unfold zokAt at h
  simp only [Bool.and_eq_true] at h
  exact inB_iff.1 h.1
theorem ins_iff {x : Int} : insB x = true ↔ -86400000 ≤ x ∧ x ≤ 315537984000000 := inB_iff

set_option maxHeartbeats 2000000 in
theorem impl_zv (o : Int) (l : List R2) (len cap B : Nat) (A : Option Addr) (w : World) (hl : l.length = len) (hP : Prs B w A l) (hB : B ≤ w.heap.size) :
    Calls Tryd.prog 39 #[.agg #[.int .i64 o, .slice A len cap]] w (RetB (zvB o l) w) := by
  by_cases h6 : 6 < len
  · have HR := hide (zv_len (o := o) (l := l) (by omega))
    clear hP hl
    go_enter Tryd.func39, Tryd.ntmps39
    go_wp2
    go_ret
    exact ⟨by rw [HR.out]; rfl, bal (Below.refl _ _) _⟩
  cases ho : offB o with
  | false =>
    have HR := hide (zv_off (o := o) (l := l) ho)
    clear hP hl
    go_enter Tryd.func39, Tryd.ntmps39
    go_wp2_with (go_at_call 67; refine (offsetValid_any _ _).mono ?_; rintro e w' ⟨rfl, rfl⟩)
    go_ret
    exact ⟨by rw [HR.out]; rfl, bal (Below.refl _ _) _⟩
  | true =>
    have HL := hide hl
    have HO := hide ho
    have HV := hide hP.view
    have hs : len = 0 ∨ ∃ b o, A = some ⟨b, o, none⟩ := by
      rcases hP.view with h | ⟨b, o, h, _⟩
      · exact .inl (by omega)
      · exact .inr ⟨b, o, h⟩
    clear hP hl
    have main : ∀ A' : Option Addr, A' = A → (len = 0 ∨ ∃ b o, A' = some ⟨b, o, none⟩) → Calls Tryd.prog 39 #[.agg #[.int .i64 o, .slice A' len cap]] w (RetB (zvB o l) w) := by
      intro A' hA' hs
      have HA := hide hA'
      clear hA'
      go_enter Tryd.func39, Tryd.ntmps39
      go_wp2_with (go_at_call 67; refine (offsetValid_any _ _).mono ?_; rintro e w' ⟨rfl, rfl⟩)
      have hx0 := hide (Blk.newE (W := w.alloc (.cells #[.int .i64 o, .slice A' len cap] 36)) (t := 68) (g := w.heap.size + 1) (cs := #[.int .i64 (-9223372036854775808), .int .i64 o]) (by simp))
      have hb0 := bal (bal (Below.refl w.heap.size w) (.cells #[.int .i64 o, .slice A' len cap] 36)) (.cells #[.int .i64 (-9223372036854775808), .int .i64 o] 68)
      go_loopw [22] (fun i wr => ∃ (k : Nat) (p q : Int), k ≤ len ∧ i = .int .i64 k ∧ Hid (p = oA o l k) ∧ Hid (0 < k → q = tA l (k - 1)) ∧ Hid (Blk wr (w.heap.size + 1) 68 #[.int .i64 q, .int .i64 p]) ∧ Hid (∀ j, j < k → zokAt o l j = true) ∧ Below w.heap.size w wr) (fun i _ => len - (intOf i).toNat)
      case atStart => exact ⟨0, o, -9223372036854775808, by omega, rfl, hide (oA_0 o l).symm, hide (by omega), hx0, hide (by omega), hb0⟩
      case round =>
        obtain ⟨k, p, q, hk, rfl, hp, hq, hX, HK, hb⟩ := hrel
        have hsz := hb.size
        have x0 := hX.out.cell 0
        have x1 := hX.out.cell 1
        have xf0 := hX.out.frozen 0
        have xf1 := hX.out.frozen 1
        have xl := hX.out.lt
        simp at x0 x1
        by_cases hlt : k < len
        · rcases hs with hs | ⟨b0, o0, rfl⟩
          · omega
          have hcs : ∀ i, i < l.length → b0 < B ∧ w.cell? ⟨b0, o0 + i * 2, none⟩ = some (.int .i64 (l.getD i (0, 0)).1) ∧ w.cell? ⟨b0, o0 + i * 2 + 1, none⟩ = some (.int .i64 (l.getD i (0, 0)).2) := by
            rcases HV.out with h | ⟨b1, o1, e1, h1, h2⟩
            · intro i hi; omega
            · rw [← HA.out] at e1
              cases e1
              exact fun i hi => ⟨h1, h2 i hi⟩
          obtain ⟨x, y, hxy⟩ := pair_ex l k
          obtain ⟨hbB, c0, c1⟩ := hcs k (by rw [HL.out]; exact hlt)
          rw [hxy] at c0 c1
          have hbw : b0 < w.heap.size := by omega
          replace c0 := (hb.cell (p := ⟨b0, o0 + k * 2, none⟩) hbw).trans c0
          replace c1 := (hb.cell (p := ⟨b0, o0 + k * 2 + 1, none⟩) hbw).trans c1
          have hkl : Hid (k < l.length) := hide (by rw [HL.out]; exact hlt)
          have HZ := hide (zk_eq (o := o) hxy)
          have HX := hide hxy
          clear hxy hcs
          rw [← hp.out] at HZ
          cases h1 : insB x with
          | false =>
            have HR := hide (zv_bad hkl.out (HZ.out.trans (by rw [h1]; rfl)))
            go_wp2_with (first | (go_at_call 54; refine (instantValid_any _ _).mono ?_; rintro e w' ⟨rfl, rfl⟩) | (go_at_call 67; refine (offsetValid_any _ _).mono ?_; rintro e w' ⟨rfl, rfl⟩))
            go_ret
            exact ⟨by rw [HR.out]; rfl, bal hb _⟩
          | true =>
            have HI := hide h1
            cases h2 : offB y with
            | false =>
              have HR := hide (zv_bad hkl.out (HZ.out.trans (by rw [h1, h2]; rfl)))
              go_wp2_with (first | (go_at_call 54; refine (instantValid_any _ _).mono ?_; rintro e w' ⟨rfl, rfl⟩) | (go_at_call 67; refine (offsetValid_any _ _).mono ?_; rintro e w' ⟨rfl, rfl⟩))
              go_ret
              exact ⟨by rw [HR.out]; rfl, bal hb _⟩
            | true =>
              cases h3 : y == p with
              | true =>
                have HR := hide (zv_bad hkl.out (HZ.out.trans (by rw [h1, h2, h3]; rfl)))
                go_wp2_with (first | (go_at_call 54; refine (instantValid_any _ _).mono ?_; rintro e w' ⟨rfl, rfl⟩) | (go_at_call 67; refine (offsetValid_any _ _).mono ?_; rintro e w' ⟨rfl, rfl⟩))
                go_ret
                exact ⟨by rw [HR.out]; rfl, bal hb _⟩
              | false =>
                by_cases hk0 : k = 0
                · have HG := hide (show zokAt o l k = true from HZ.out.trans (by rw [h1, h2, h3, hk0]; rfl))
                  subst hk0
                  simp only [Nat.zero_mul, Nat.add_zero] at c0 c1
                  go_wp2_with (first | (go_at_call 54; refine (instantValid_any _ _).mono ?_; rintro e w' ⟨rfl, rfl⟩) | (go_at_call 67; refine (offsetValid_any _ _).mono ?_; rintro e w' ⟨rfl, rfl⟩))
                  go_roundw
                  case rel =>
                    refine ⟨0 + 1, y, x, by omega, by go_num, hide (by rw [oA_succ hkl.out, HX.out]), hide (fun _ => by unfold tA; rw [Nat.add_sub_cancel, HX.out]), hide (((hX.out.set_ 0 (.int .i64 x)).set_ 1 (.int .i64 y)).alloc _), hide (upto HK.out HG.out), bal (bset (bset hb (Nat.le_succ _) _) (Nat.le_succ _) _) _⟩
                  case measure => simp [intOf]; omega
                · have hkp : 0 < k := by omega
                  have hqe := hq.out hkp
                  have hqr := zk_ins (HK.out (k - 1) (by omega))
                  rw [← hqe] at hqr
                  have hxr := ins_iff.1 h1
                  have g1 : decide ((0 : Int) < (k : Int)) = true := by simp; omega
                  have g2 : IntKind.i64.wrap (x - q) = x - q := IntWalk.i64_in _ (by omega)
                  have hkb : (k == 0) = false := by simp; omega
                  by_cases hg : 172800000 < x - q
                  · have HG := hide (show zokAt o l k = true from HZ.out.trans (by rw [h1, h2, h3, hkb, ← hqe]; simp [hg]))
                    have g3 : decide (x - q ≤ 172800000) = false := by simp; omega
                    clear hqe hqr hxr hkb
                    go_wp2_with (first | (go_at_call 54; refine (instantValid_any _ _).mono ?_; rintro e w' ⟨rfl, rfl⟩) | (go_at_call 67; refine (offsetValid_any _ _).mono ?_; rintro e w' ⟨rfl, rfl⟩))
                    go_roundw
                    case rel =>
                      refine ⟨k + 1, y, x, by omega, by go_num, hide (by rw [oA_succ hkl.out, HX.out]), hide (fun _ => by unfold tA; rw [Nat.add_sub_cancel, HX.out]), hide (((hX.out.set_ 0 (.int .i64 x)).set_ 1 (.int .i64 y)).alloc _), hide (upto HK.out HG.out), bal (bset (bset hb (Nat.le_succ _) _) (Nat.le_succ _) _) _⟩
                    case measure => simp [intOf]; omega
                  · have HR := hide (zv_bad hkl.out (HZ.out.trans (by rw [h1, h2, h3, hkb, ← hqe]; simp [hg])))
                    have g3 : decide (x - q ≤ 172800000) = true := by simp; omega
                    clear hqe hqr hxr hkb
                    go_wp2_with (first | (go_at_call 54; refine (instantValid_any _ _).mono ?_; rintro e w' ⟨rfl, rfl⟩) | (go_at_call 67; refine (offsetValid_any _ _).mono ?_; rintro e w' ⟨rfl, rfl⟩))
                    go_ret
                    exact ⟨by rw [HR.out]; rfl, bal hb _⟩
        · obtain rfl : k = len := by omega
          have HR := hide (zv_good (l := l) (by rw [HL.out]; omega) HO.out (by rw [HL.out]; exact HK.out))
          go_wp2
          go_ret
          exact ⟨by rw [HR.out]; rfl, hb⟩
    exact main A rfl hs
end Go.Proofs.YtjdlffkbhaieaaaDoor
