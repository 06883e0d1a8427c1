/- Contracts: a repeat's text. -/
import Derived.Test.YtinemkjoohgmjaaDoorPs1
import Derived.Test.YtinemkjoohgmjaaDoorDrQ
import Derived.Deep.CutRange
namespace Go.Proofs.YtinemkjoohgmjaaDoor
open Go.RowKit
attribute [local go_sem] S_mk S_size S_app p1_len p2_len p3_len p4_len lt_cell
attribute [local go_sem ↓] loadR_eq

/-- What RepeatText hands back. -/
def rpT (x : S8) (p1 p2 p3 p4 p5 p6 n : Int) : List UInt8 := if rpB x p1 p2 p3 p4 p5 p6 n then [82] ++ d2 n ++ [47] ++ stT x ++ [47] ++ perT p1 p2 p3 p4 p5 p6 else []
theorem rpT_yes {x : S8} {p1 p2 p3 p4 p5 p6 n : Int} (h : rpB x p1 p2 p3 p4 p5 p6 n = true) : rpT x p1 p2 p3 p4 p5 p6 n = [82] ++ d2 n ++ [47] ++ stT x ++ [47] ++ perT p1 p2 p3 p4 p5 p6 := by unfold rpT; rw [if_pos h]
theorem rpT_no {x : S8} {p1 p2 p3 p4 p5 p6 n : Int} (h : rpB x p1 p2 p3 p4 p5 p6 n = false) : rpT x p1 p2 p3 p4 p5 p6 n = [] := by unfold rpT; rw [h]; rfl
theorem rpB_in {x : S8} {p1 p2 p3 p4 p5 p6 n : Int} (h : rpB x p1 p2 p3 p4 p5 p6 n = true) : x.ok = true ∧ smB p1 p2 p3 p4 p5 p6 ∧ 0 ≤ n ∧ n ≤ 99 := by
  unfold rpB at h
  simp only [Bool.and_eq_true, inB_iff, decide_eq_true_eq] at h
  have hk := h.2
  refine ⟨h.1, ?_, by omega, by omega⟩
  unfold smB
  omega
set_option maxRecDepth 100000 in
set_option maxHeartbeats 2000000 in
theorem impl_rpT (y mo d h mi s ms o p1 p2 p3 p4 p5 p6 n : Int) (w : World) (hM : MD w) :
    Calls Tryd.prog 13 #[.agg #[.int .i64 y, .int .i64 mo, .int .i64 d, .int .i64 h, .int .i64 mi, .int .i64 s, .int .i64 ms, .int .i64 o, .int .i64 p1, .int .i64 p2, .int .i64 p3, .int .i64 p4, .int .i64 p5, .int .i64 p6, .int .i64 n]] w fun e w' => e = .returned (.string (S (rpT ⟨y, mo, d, h, mi, s, ms, o⟩ p1 p2 p3 p4 p5 p6 n))) ∧ Below w.heap.size w w' := by
  obtain ⟨W, hW⟩ : ∃ W, W = w.alloc (.cells #[.int .i64 y, .int .i64 mo, .int .i64 d, .int .i64 h, .int .i64 mi, .int .i64 s, .int .i64 ms, .int .i64 o, .int .i64 p1, .int .i64 p2, .int .i64 p3, .int .i64 p4, .int .i64 p5, .int .i64 p6, .int .i64 n] 46) := ⟨_, rfl⟩
  have B0 := hide (show Below w.heap.size w W by rw [hW]; exact bal (Below.refl _ _) _)
  have X0 := hide (show Blk W w.heap.size 46 #[.int .i64 y, .int .i64 mo, .int .i64 d, .int .i64 h, .int .i64 mi, .int .i64 s, .int .i64 ms, .int .i64 o, .int .i64 p1, .int .i64 p2, .int .i64 p3, .int .i64 p4, .int .i64 p5, .int .i64 p6, .int .i64 n] by rw [hW]; exact Blk.new _ _ _)
  have HW := hide hW
  clear hW
  have hld := loadR_row X0.out
  go_enter Tryd.func13, Tryd.ntmps13
  go_upto_region 1 with fail
  rw [← HW.out]
  clear HW
  go_wp2_with fail
  refine (impl_rv y mo d h mi s ms o p1 p2 p3 p4 p5 p6 n W (hM.below B0.out)).mono ?_
  rintro e w1 ⟨rfl, hb1⟩
  have X1 := hide (X0.out.below hb1 X0.out.lt)
  have B1 := hide (bto B0.out hb1)
  clear hld hb1 X0
  cases hok : rpB ⟨y, mo, d, h, mi, s, ms, o⟩ p1 p2 p3 p4 p5 p6 n with
  | false =>
    have HF := hide (rpT_no hok)
    clear hok
    go_wp2_with fail
    go_ret
    exact ⟨by rw [HF.out]; rfl, B1.out⟩
  | true =>
    have HF := hide (rpT_yes hok)
    obtain ⟨oks, hsm, hn⟩ := rpB_in hok
    have hM1 := hM.below B1.out
    have hd := fun W => itoa_any n W hn.1 hn.2
    have hst := fun x : Lt w1 => impl_stT y mo d h mi s ms o x.w (hM1.below x.h) oks
    have hpt := fun W => impl_perT p1 p2 p3 p4 p5 p6 W hsm
    have l1 : (((d2 n).length : Nat) : Int) ≤ 2 := by have := d2_len n; omega
    have l2 : (((stT ⟨y, mo, d, h, mi, s, ms, o⟩).length : Nat) : Int) ≤ 29 := by have := stT_len ⟨y, mo, d, h, mi, s, ms, o⟩; omega
    have l3 : (((perT p1 p2 p3 p4 p5 p6).length : Nat) : Int) ≤ 25 := by have := perT_len p1 p2 p3 p4 p5 p6; omega
    generalize d2 n = DN at *
    generalize stT ⟨y, mo, d, h, mi, s, ms, o⟩ = TS at *
    generalize perT p1 p2 p3 p4 p5 p6 = TP at *
    have n1 := X1.out.lt
    have n2 : w.heap.size ≤ w1.heap.size := by omega
    have c0 := X1.out.cell 0
    have c1 := X1.out.cell 1
    have c2 := X1.out.cell 2
    have c3 := X1.out.cell 3
    have c4 := X1.out.cell 4
    have c5 := X1.out.cell 5
    have c6 := X1.out.cell 6
    have c7 := X1.out.cell 7
    have c8 := X1.out.cell 8
    have c9 := X1.out.cell 9
    have c10 := X1.out.cell 10
    have c11 := X1.out.cell 11
    have c12 := X1.out.cell 12
    have c13 := X1.out.cell 13
    have c14 := X1.out.cell 14
    simp at c0 c1 c2 c3 c4 c5 c6 c7 c8 c9 c10 c11 c12 c13 c14
    clear hok oks hsm hn
    go_wp2_with fail
    refine region_below (by kernel_rfl) (by kernel_rfl) ?_
    repeat (go_big_quiet_step ((first | (go_at_call 31; exact lt_same (hd _)) | (go_at_call 10; exact lt_call (hst _)) | (go_at_call 15; exact lt_call (hpt _)))))
    refine wpQuiet_nil ?_
    rintro wq ⟨⟨_, hq⟩, rfl⟩
    clear c0 c1 c2 c3 c4 c5 c6 c7 c8 c9 c10 c11 c12 c13 c14
    go_wp2_with fail
    go_ret
    exact ⟨by rw [HF.out]; simp, bto B1.out hq⟩
set_option maxRecDepth 100000 in
set_option maxHeartbeats 2000000 in
theorem spec_rpT (y mo d h mi s ms o p1 p2 p3 p4 p5 p6 n : Int) (w : World) :
    Calls Tryd.prog 11 #[.agg #[.int .i64 y, .int .i64 mo, .int .i64 d, .int .i64 h, .int .i64 mi, .int .i64 s, .int .i64 ms, .int .i64 o, .int .i64 p1, .int .i64 p2, .int .i64 p3, .int .i64 p4, .int .i64 p5, .int .i64 p6, .int .i64 n]] w fun e w' => e = .returned (.string (S (rpT ⟨y, mo, d, h, mi, s, ms, o⟩ p1 p2 p3 p4 p5 p6 n))) ∧ Below w.heap.size w w' := by
  obtain ⟨W, hW⟩ : ∃ W, W = w.alloc (.cells #[.int .i64 y, .int .i64 mo, .int .i64 d, .int .i64 h, .int .i64 mi, .int .i64 s, .int .i64 ms, .int .i64 o, .int .i64 p1, .int .i64 p2, .int .i64 p3, .int .i64 p4, .int .i64 p5, .int .i64 p6, .int .i64 n] 46) := ⟨_, rfl⟩
  have B0 := hide (show Below w.heap.size w W by rw [hW]; exact bal (Below.refl _ _) _)
  have X0 := hide (show Blk W w.heap.size 46 #[.int .i64 y, .int .i64 mo, .int .i64 d, .int .i64 h, .int .i64 mi, .int .i64 s, .int .i64 ms, .int .i64 o, .int .i64 p1, .int .i64 p2, .int .i64 p3, .int .i64 p4, .int .i64 p5, .int .i64 p6, .int .i64 n] by rw [hW]; exact Blk.new _ _ _)
  have HW := hide hW
  clear hW
  have hld := loadR_row X0.out
  go_enter Tryd.func11, Tryd.ntmps11
  go_upto_region 1 with fail
  rw [← HW.out]
  clear HW
  go_wp2_with fail
  refine (spec_rv y mo d h mi s ms o p1 p2 p3 p4 p5 p6 n W).mono ?_
  rintro e w1 ⟨rfl, hb1⟩
  have X1 := hide (X0.out.below hb1 X0.out.lt)
  have B1 := hide (bto B0.out hb1)
  clear hld hb1 X0
  cases hok : rpB ⟨y, mo, d, h, mi, s, ms, o⟩ p1 p2 p3 p4 p5 p6 n with
  | false =>
    have HF := hide (rpT_no hok)
    clear hok
    go_wp2_with fail
    go_ret
    exact ⟨by rw [HF.out]; rfl, B1.out⟩
  | true =>
    have HF := hide (rpT_yes hok)
    obtain ⟨oks, hsm, hn⟩ := rpB_in hok

    have hd := fun W => dec_any n W hn.1 hn.2
    have hst := fun W => spec_stT y mo d h mi s ms o W oks
    have hpt := fun W => spec_perT p1 p2 p3 p4 p5 p6 W hsm
    have l1 : (((d2 n).length : Nat) : Int) ≤ 2 := by have := d2_len n; omega
    have l2 : (((stT ⟨y, mo, d, h, mi, s, ms, o⟩).length : Nat) : Int) ≤ 29 := by have := stT_len ⟨y, mo, d, h, mi, s, ms, o⟩; omega
    have l3 : (((perT p1 p2 p3 p4 p5 p6).length : Nat) : Int) ≤ 25 := by have := perT_len p1 p2 p3 p4 p5 p6; omega
    generalize d2 n = DN at *
    generalize stT ⟨y, mo, d, h, mi, s, ms, o⟩ = TS at *
    generalize perT p1 p2 p3 p4 p5 p6 = TP at *
    have n1 := X1.out.lt
    have n2 : w.heap.size ≤ w1.heap.size := by omega
    have c0 := X1.out.cell 0
    have c1 := X1.out.cell 1
    have c2 := X1.out.cell 2
    have c3 := X1.out.cell 3
    have c4 := X1.out.cell 4
    have c5 := X1.out.cell 5
    have c6 := X1.out.cell 6
    have c7 := X1.out.cell 7
    have c8 := X1.out.cell 8
    have c9 := X1.out.cell 9
    have c10 := X1.out.cell 10
    have c11 := X1.out.cell 11
    have c12 := X1.out.cell 12
    have c13 := X1.out.cell 13
    have c14 := X1.out.cell 14
    simp at c0 c1 c2 c3 c4 c5 c6 c7 c8 c9 c10 c11 c12 c13 c14
    clear hok oks hsm hn
    go_wp2_with fail
    refine region_below (by kernel_rfl) (by kernel_rfl) ?_
    repeat (go_big_quiet_step ((first | (go_at_call 27; exact lt_call (hd _)) | (go_at_call 21; exact lt_call (hst _)) | (go_at_call 28; exact lt_call (hpt _)))))
    refine wpQuiet_nil ?_
    rintro wq ⟨⟨_, hq⟩, rfl⟩
    clear c0 c1 c2 c3 c4 c5 c6 c7 c8 c9 c10 c11 c12 c13 c14
    go_wp2_with fail
    go_ret
    exact ⟨by rw [HF.out]; simp, bto B1.out hq⟩
end Go.Proofs.YtinemkjoohgmjaaDoor
