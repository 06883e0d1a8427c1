/- Contracts: the n-th time of a repeat (the reference's). -/
import Derived.Test.YtaagomchjklgaaaDoorSg3
import Derived.Test.YtaagomchjklgaaaDoorRa2
import Derived.StillTailTactics
namespace Go.Proofs.YtaagomchjklgaaaDoor
open Go.RowKit

set_option maxRecDepth 100000 in
set_option maxHeartbeats 4000000 in
theorem l15Of_any (m1 m2 m3 m4 m5 m6 : Int) (w : World) (b : Nat) (hb : Blk w b 3 #[.int .i64 m1, .int .i64 m2, .int .i64 m3, .int .i64 m4, .int .i64 m5, .int .i64 m6]) :
    Calls Tryd.prog 50 #[.slice (some ⟨b, 0, none⟩) 6 6] w fun e w' => e = .returned (.agg #[.int .i64 m1, .int .i64 m2, .int .i64 m3, .int .i64 m4, .int .i64 m5, .int .i64 m6]) ∧ Below w.heap.size w w' := by
  have K0 := hide (hb.alloc (.cells #[.int .i64 0, .int .i64 0, .int .i64 0, .int .i64 0, .int .i64 0, .int .i64 0] 38))
  have R0 := hide (Blk.new w 38 #[.int .i64 0, .int .i64 0, .int .i64 0, .int .i64 0, .int .i64 0, .int .i64 0])
  have B0 := hide (bal (Below.refl w.heap.size w) (.cells #[.int .i64 0, .int .i64 0, .int .i64 0, .int .i64 0, .int .i64 0, .int .i64 0] 38))
  go_enter Tryd.func50, Tryd.ntmps50
  go_wp2_with fail
  generalize w.alloc (.cells #[.int .i64 0, .int .i64 0, .int .i64 0, .int .i64 0, .int .i64 0, .int .i64 0] 38) = w1 at *
  have a0 := K0.out.cell 0
  have a1 := K0.out.cell 1
  have a2 := K0.out.cell 2
  have a3 := K0.out.cell 3
  have a4 := K0.out.cell 4
  have a5 := K0.out.cell 5
  simp at a0 a1 a2 a3 a4 a5
  go_still_tail 19, (by kernel_rfl)
  change wpList _ _ _ _ _ w1.drew
  replace R0 := hide R0.out.drew
  replace B0 := hide (bdrew B0.out)
  clear a0 a1 a2 a3 a4 a5
  generalize w1.drew = w2 at *
  have r0 := R0.out.cell 0
  have f0 := R0.out.frozen 0
  have r1 := R0.out.cell 1
  have f1 := R0.out.frozen 1
  have r2 := R0.out.cell 2
  have f2 := R0.out.frozen 2
  have r3 := R0.out.cell 3
  have f3 := R0.out.frozen 3
  have r4 := R0.out.cell 4
  have f4 := R0.out.frozen 4
  have r5 := R0.out.cell 5
  have f5 := R0.out.frozen 5
  simp at r0 r1 r2 r3 r4 r5
  have RR := ((((((R0.out.set_ 0 (.int .i64 m1)).set_ 1 (.int .i64 m2)).set_ 2 (.int .i64 m3)).set_ 3 (.int .i64 m4)).set_ 4 (.int .i64 m5)).set_ 5 (.int .i64 m6))
  simp only [List.setIfInBounds_toArray, List.set_cons_zero, List.set_cons_succ] at RR
  have k0 := RR.cell 0
  have k1 := RR.cell 1
  have k2 := RR.cell 2
  have k3 := RR.cell 3
  have k4 := RR.cell 4
  have k5 := RR.cell 5
  simp at k0 k1 k2 k3 k4 k5
  go_wp2_with fail
  refine bodyPost_ret (by simp [results, Tryd.results50, go_sem, k0, k1, k2, k3, k4, k5]; try rfl) rfl ?_
  exact ⟨rfl, (bset (bset (bset (bset (bset (bset B0.out (p := ⟨w.heap.size, 0, none⟩) (Nat.le_refl _) (.int .i64 m1)) (p := ⟨w.heap.size, 1, none⟩) (Nat.le_refl _) (.int .i64 m2)) (p := ⟨w.heap.size, 2, none⟩) (Nat.le_refl _) (.int .i64 m3)) (p := ⟨w.heap.size, 3, none⟩) (Nat.le_refl _) (.int .i64 m4)) (p := ⟨w.heap.size, 4, none⟩) (Nat.le_refl _) (.int .i64 m5)) (p := ⟨w.heap.size, 5, none⟩) (Nat.le_refl _) (.int .i64 m6))⟩
section
attribute [local go_sem] lt_cell cell_sp sp_alloc sp_drew sp_new storeP_sp
attribute [local go_sem ↓] storeP_eq
set_option maxRecDepth 100000 in
set_option maxHeartbeats 4000000 in
theorem spec_at (y mo d h mi s ms o p1 p2 p3 p4 p5 p6 t n m1 m2 m3 m4 m5 m6 : Int) (w : World) (e1 : n * p1 = m1) (e2 : n * p2 = m2) (e3 : n * p3 = m3) (e4 : n * p4 = m4) (e5 : n * p5 = m5) (e6 : n * p6 = m6) (hq : pvB m1 m2 m3 m4 m5 m6 = true) :
    Calls Tryd.prog 23 #[.agg #[.int .i64 y, .int .i64 mo, .int .i64 d, .int .i64 h, .int .i64 mi, .int .i64 s, .int .i64 ms, .int .i64 o, .int .i64 p1, .int .i64 p2, .int .i64 p3, .int .i64 p4, .int .i64 p5, .int .i64 p6, .int .i64 t], .int .i64 n] w (RetS (stP ⟨y, mo, d, h, mi, s, ms, o⟩ m1 m2 m3 m4 m5 m6) w) := by
  have X0 := hide ((Blk.new w 40 #[.int .i64 y, .int .i64 mo, .int .i64 d, .int .i64 h, .int .i64 mi, .int .i64 s, .int .i64 ms, .int .i64 o, .int .i64 p1, .int .i64 p2, .int .i64 p3, .int .i64 p4, .int .i64 p5, .int .i64 p6, .int .i64 t]).alloc (.cells #[.int .i64 0, .int .i64 0, .int .i64 0, .int .i64 0, .int .i64 0, .int .i64 0, .int .i64 0, .int .i64 0] 37))
  have R0 := hide (Blk.newE (W := w.alloc (.cells #[.int .i64 y, .int .i64 mo, .int .i64 d, .int .i64 h, .int .i64 mi, .int .i64 s, .int .i64 ms, .int .i64 o, .int .i64 p1, .int .i64 p2, .int .i64 p3, .int .i64 p4, .int .i64 p5, .int .i64 p6, .int .i64 t] 40)) (g := w.heap.size + 1) (t := 37) (cs := #[.int .i64 0, .int .i64 0, .int .i64 0, .int .i64 0, .int .i64 0, .int .i64 0, .int .i64 0, .int .i64 0]) (by simp))
  have B0 := hide (bal (bal (Below.refl w.heap.size w) (.cells #[.int .i64 y, .int .i64 mo, .int .i64 d, .int .i64 h, .int .i64 mi, .int .i64 s, .int .i64 ms, .int .i64 o, .int .i64 p1, .int .i64 p2, .int .i64 p3, .int .i64 p4, .int .i64 p5, .int .i64 p6, .int .i64 t] 40)) (.cells #[.int .i64 0, .int .i64 0, .int .i64 0, .int .i64 0, .int .i64 0, .int .i64 0, .int .i64 0, .int .i64 0] 37))
  have HQ := hide hq
  have hSPx : ∀ W, Calls Tryd.prog 49 #[.agg #[.int .i64 y, .int .i64 mo, .int .i64 d, .int .i64 h, .int .i64 mi, .int .i64 s, .int .i64 ms, .int .i64 o], .agg #[.int .i64 m1, .int .i64 m2, .int .i64 m3, .int .i64 m4, .int .i64 m5, .int .i64 m6], .bool false] W (RetS (stP ⟨y, mo, d, h, mi, s, ms, o⟩ m1 m2 m3 m4 m5 m6) W) := fun W  => spec_sp y mo d h mi s ms o m1 m2 m3 m4 m5 m6 W
  generalize stP ⟨y, mo, d, h, mi, s, ms, o⟩ m1 m2 m3 m4 m5 m6 = sq at *
  obtain ⟨⟨Y, M, D, H, I, S, L, O⟩, okb⟩ := sq
  unfold RetS at hSPx
  simp only [S8.v] at hSPx
  have hT : ∀ W (b : Nat), Blk W b 3 #[.int .i64 m1, .int .i64 m2, .int .i64 m3, .int .i64 m4, .int .i64 m5, .int .i64 m6] → Calls Tryd.prog 50 #[.slice (some ⟨b, 0, none⟩) 6 6] W fun e w' => e = .returned (.agg #[.int .i64 m1, .int .i64 m2, .int .i64 m3, .int .i64 m4, .int .i64 m5, .int .i64 m6]) ∧ Below W.heap.size W w' := fun W b hB => l15Of_any m1 m2 m3 m4 m5 m6 W b hB
  obtain ⟨pa1, pa2, pa3, pa4, pa5, pa6⟩ := pvB_iff.1 hq
  clear hq
  go_enter Tryd.func23, Tryd.ntmps23
  go_wp2_with fail
  refine (l15Parts_any p1 p2 p3 p4 p5 p6 _).mono ?_
  rintro e w1 ⟨rfl, hp1, hb1⟩
  have X1 := hide (X0.out.below hb1 X0.out.lt)
  have R1 := hide (R0.out.below hb1 R0.out.lt)
  have B1 := hide (bto B0.out hb1)
  obtain ⟨gP, egP⟩ : ∃ gP, gP = (((w.alloc (.cells #[.int .i64 y, .int .i64 mo, .int .i64 d, .int .i64 h, .int .i64 mi, .int .i64 s, .int .i64 ms, .int .i64 o, .int .i64 p1, .int .i64 p2, .int .i64 p3, .int .i64 p4, .int .i64 p5, .int .i64 p6, .int .i64 t] 40)).alloc (.cells #[.int .i64 0, .int .i64 0, .int .i64 0, .int .i64 0, .int .i64 0, .int .i64 0, .int .i64 0, .int .i64 0] 37))).heap.size + 1 := ⟨_, rfl⟩
  have hgP : w.heap.size + 1 < gP := by rw [egP]; simp
  simp only [World.size_alloc] at egP
  simp only [World.size_alloc] at hp1
  simp only [World.size_alloc]
  rw [← egP] at hp1 ⊢
  have Q1 := hide hp1
  clear X0 R0 B0 hb1 hp1 egP
  go_wp2_with fail
  refine wp_loop_rounds 7 ?_
  rw [rounds_succ]
  have a0 := Q1.out.cell 0
  have f0 := Q1.out.frozen 0
  simp at a0
  go_wp2_with fail
  have Q2 := Q1.out.set_ 0 (.int .i64 m1)
  simp only [List.setIfInBounds_toArray, List.set_cons_zero] at Q2
  replace Q2 := hide Q2
  have X2 := hide (X1.out.far (p := ⟨gP, 0, none⟩) (show w.heap.size ≠ gP by omega) (.int .i64 m1))
  have R2 := hide (R1.out.far (p := ⟨gP, 0, none⟩) (show w.heap.size + 1 ≠ gP by omega) (.int .i64 m1))
  have B2 := hide (bset B1.out (p := ⟨gP, 0, none⟩) (show w.heap.size ≤ gP by omega) (.int .i64 m1))
  clear X1 R1 Q1 B1 a0 f0
  generalize w1.setCell ⟨gP, 0, none⟩ (.int .i64 m1) = w2 at *
  rw [rounds_succ]
  have a0 := Q2.out.cell 1
  have f0 := Q2.out.frozen 1
  simp at a0
  go_wp2_with fail
  have Q3 := Q2.out.set_ 1 (.int .i64 m2)
  simp only [List.setIfInBounds_toArray, List.set_cons_zero, List.set_cons_succ] at Q3
  replace Q3 := hide Q3
  have X3 := hide (X2.out.far (p := ⟨gP, 1, none⟩) (show w.heap.size ≠ gP by omega) (.int .i64 m2))
  have R3 := hide (R2.out.far (p := ⟨gP, 1, none⟩) (show w.heap.size + 1 ≠ gP by omega) (.int .i64 m2))
  have B3 := hide (bset B2.out (p := ⟨gP, 1, none⟩) (show w.heap.size ≤ gP by omega) (.int .i64 m2))
  clear X2 R2 Q2 B2 a0 f0
  generalize w2.setCell ⟨gP, 1, none⟩ (.int .i64 m2) = w3 at *
  rw [rounds_succ]
  have a0 := Q3.out.cell 2
  have f0 := Q3.out.frozen 2
  simp at a0
  go_wp2_with fail
  have Q4 := Q3.out.set_ 2 (.int .i64 m3)
  simp only [List.setIfInBounds_toArray, List.set_cons_zero, List.set_cons_succ] at Q4
  replace Q4 := hide Q4
  have X4 := hide (X3.out.far (p := ⟨gP, 2, none⟩) (show w.heap.size ≠ gP by omega) (.int .i64 m3))
  have R4 := hide (R3.out.far (p := ⟨gP, 2, none⟩) (show w.heap.size + 1 ≠ gP by omega) (.int .i64 m3))
  have B4 := hide (bset B3.out (p := ⟨gP, 2, none⟩) (show w.heap.size ≤ gP by omega) (.int .i64 m3))
  clear X3 R3 Q3 B3 a0 f0
  generalize w3.setCell ⟨gP, 2, none⟩ (.int .i64 m3) = w4 at *
  rw [rounds_succ]
  have a0 := Q4.out.cell 3
  have f0 := Q4.out.frozen 3
  simp at a0
  go_wp2_with fail
  have Q5 := Q4.out.set_ 3 (.int .i64 m4)
  simp only [List.setIfInBounds_toArray, List.set_cons_zero, List.set_cons_succ] at Q5
  replace Q5 := hide Q5
  have X5 := hide (X4.out.far (p := ⟨gP, 3, none⟩) (show w.heap.size ≠ gP by omega) (.int .i64 m4))
  have R5 := hide (R4.out.far (p := ⟨gP, 3, none⟩) (show w.heap.size + 1 ≠ gP by omega) (.int .i64 m4))
  have B5 := hide (bset B4.out (p := ⟨gP, 3, none⟩) (show w.heap.size ≤ gP by omega) (.int .i64 m4))
  clear X4 R4 Q4 B4 a0 f0
  generalize w4.setCell ⟨gP, 3, none⟩ (.int .i64 m4) = w5 at *
  rw [rounds_succ]
  have a0 := Q5.out.cell 4
  have f0 := Q5.out.frozen 4
  simp at a0
  go_wp2_with fail
  have Q6 := Q5.out.set_ 4 (.int .i64 m5)
  simp only [List.setIfInBounds_toArray, List.set_cons_zero, List.set_cons_succ] at Q6
  replace Q6 := hide Q6
  have X6 := hide (X5.out.far (p := ⟨gP, 4, none⟩) (show w.heap.size ≠ gP by omega) (.int .i64 m5))
  have R6 := hide (R5.out.far (p := ⟨gP, 4, none⟩) (show w.heap.size + 1 ≠ gP by omega) (.int .i64 m5))
  have B6 := hide (bset B5.out (p := ⟨gP, 4, none⟩) (show w.heap.size ≤ gP by omega) (.int .i64 m5))
  clear X5 R5 Q5 B5 a0 f0
  generalize w5.setCell ⟨gP, 4, none⟩ (.int .i64 m5) = w6 at *
  rw [rounds_succ]
  have a0 := Q6.out.cell 5
  have f0 := Q6.out.frozen 5
  simp at a0
  go_wp2_with fail
  have Q7 := Q6.out.set_ 5 (.int .i64 m6)
  simp only [List.setIfInBounds_toArray, List.set_cons_zero, List.set_cons_succ] at Q7
  replace Q7 := hide Q7
  have X7 := hide (X6.out.far (p := ⟨gP, 5, none⟩) (show w.heap.size ≠ gP by omega) (.int .i64 m6))
  have R7 := hide (R6.out.far (p := ⟨gP, 5, none⟩) (show w.heap.size + 1 ≠ gP by omega) (.int .i64 m6))
  have B7 := hide (bset B6.out (p := ⟨gP, 5, none⟩) (show w.heap.size ≤ gP by omega) (.int .i64 m6))
  clear X6 R6 Q6 B6 a0 f0
  generalize w6.setCell ⟨gP, 5, none⟩ (.int .i64 m6) = w7 at *
  rw [rounds_succ]
  go_wp2_with fail
  have X0 := X7
  have R0 := R7
  have B0 := B7
  have Q0 := Q7
  clear X7 R7 B7 Q7
  clear e1 e2 e3 e4 e5 e6 pa1 pa2 pa3 pa4 pa5 pa6
  have ww : ∀ w', Below w7.heap.size w7 w' → w'.cell? ⟨w.heap.size, 0, none⟩ = some (.int .i64 y) ∧ w'.cell? ⟨w.heap.size, 1, none⟩ = some (.int .i64 mo) ∧ w'.cell? ⟨w.heap.size, 2, none⟩ = some (.int .i64 d) ∧ w'.cell? ⟨w.heap.size, 3, none⟩ = some (.int .i64 h) ∧ w'.cell? ⟨w.heap.size, 4, none⟩ = some (.int .i64 mi) ∧ w'.cell? ⟨w.heap.size, 5, none⟩ = some (.int .i64 s) ∧ w'.cell? ⟨w.heap.size, 6, none⟩ = some (.int .i64 ms) ∧ w'.cell? ⟨w.heap.size, 7, none⟩ = some (.int .i64 o) := fun w' k => ⟨(X0.out.below k X0.out.lt).cell 0, (X0.out.below k X0.out.lt).cell 1, (X0.out.below k X0.out.lt).cell 2, (X0.out.below k X0.out.lt).cell 3, (X0.out.below k X0.out.lt).cell 4, (X0.out.below k X0.out.lt).cell 5, (X0.out.below k X0.out.lt).cell 6, (X0.out.below k X0.out.lt).cell 7⟩
  have wr : ∀ (w' : World) (cs : Array Value), Below w7.heap.size w7 w' → (fun w' => w'.cell? ⟨w.heap.size, 0, none⟩ = some (.int .i64 y) ∧ w'.cell? ⟨w.heap.size, 1, none⟩ = some (.int .i64 mo) ∧ w'.cell? ⟨w.heap.size, 2, none⟩ = some (.int .i64 d) ∧ w'.cell? ⟨w.heap.size, 3, none⟩ = some (.int .i64 h) ∧ w'.cell? ⟨w.heap.size, 4, none⟩ = some (.int .i64 mi) ∧ w'.cell? ⟨w.heap.size, 5, none⟩ = some (.int .i64 s) ∧ w'.cell? ⟨w.heap.size, 6, none⟩ = some (.int .i64 ms) ∧ w'.cell? ⟨w.heap.size, 7, none⟩ = some (.int .i64 o)) (w'.setRow (w.heap.size + 1) cs) := fun w' cs k => ⟨((X0.out.below k X0.out.lt).setRow_far (by omega) cs).cell 0, ((X0.out.below k X0.out.lt).setRow_far (by omega) cs).cell 1, ((X0.out.below k X0.out.lt).setRow_far (by omega) cs).cell 2, ((X0.out.below k X0.out.lt).setRow_far (by omega) cs).cell 3, ((X0.out.below k X0.out.lt).setRow_far (by omega) cs).cell 4, ((X0.out.below k X0.out.lt).setRow_far (by omega) cs).cell 5, ((X0.out.below k X0.out.lt).setRow_far (by omega) cs).cell 6, ((X0.out.below k X0.out.lt).setRow_far (by omega) cs).cell 7⟩
  have hspR : ∀ W, Below w7.heap.size w7 W → Sp W (w.heap.size + 1) := fun W k => (R0.out.below k R0.out.lt).sp rfl
  go_region_held3 (fun w' => w'.cell? ⟨w.heap.size, 0, none⟩ = some (.int .i64 y) ∧ w'.cell? ⟨w.heap.size, 1, none⟩ = some (.int .i64 mo) ∧ w'.cell? ⟨w.heap.size, 2, none⟩ = some (.int .i64 d) ∧ w'.cell? ⟨w.heap.size, 3, none⟩ = some (.int .i64 h) ∧ w'.cell? ⟨w.heap.size, 4, none⟩ = some (.int .i64 mi) ∧ w'.cell? ⟨w.heap.size, 5, none⟩ = some (.int .i64 s) ∧ w'.cell? ⟨w.heap.size, 6, none⟩ = some (.int .i64 ms) ∧ w'.cell? ⟨w.heap.size, 7, none⟩ = some (.int .i64 o)) (first | (with_reducible exact ww _ kf) | (with_reducible exact wr _ _ kf) | (with_reducible exact ww _ kd) | (with_reducible exact ww _ (bdrew (Below.refl _ _)))) (first | (go_at_call 50; (with_reducible refine (hT _ gP Q0.out.drew).mono ?_); rintro e w8 ⟨rfl, hb8⟩; have kd : Below w7.heap.size w7 w8 := bto (bdrew (Below.refl _ _)) hb8) | (go_at_call 49; (with_reducible refine (hSPx _).mono ?_); rintro e w9 ⟨rfl, hb9⟩; have kf : Below w7.heap.size w7 w9 := bto kd hb9; have hsp9 := hspR _ kf))
  all_goals
    rename_i hS
    clear hS ww wr
    go_wp2_with fail
    refine bodyPost_ret (by simp [results, Tryd.results23, go_sem, cell_sp hsp9]; try rfl) rfl ?_
    exact ⟨rfl, brow (bto B0.out kf) (show w.heap.size ≤ w.heap.size + 1 by omega) _⟩
section
attribute [local go_sem ↓] loadR_eq
set_option maxRecDepth 100000 in
set_option maxHeartbeats 4000000 in
theorem spec_ra (y mo d h mi s ms o p1 p2 p3 p4 p5 p6 t n : Int) (w : World) :
    Calls Tryd.prog 14 #[.agg #[.int .i64 y, .int .i64 mo, .int .i64 d, .int .i64 h, .int .i64 mi, .int .i64 s, .int .i64 ms, .int .i64 o, .int .i64 p1, .int .i64 p2, .int .i64 p3, .int .i64 p4, .int .i64 p5, .int .i64 p6, .int .i64 t], .int .i64 n] w (RetS (raP ⟨y, mo, d, h, mi, s, ms, o⟩ p1 p2 p3 p4 p5 p6 t n) w) := by
  have X0 := hide ((Blk.new w 40 #[.int .i64 y, .int .i64 mo, .int .i64 d, .int .i64 h, .int .i64 mi, .int .i64 s, .int .i64 ms, .int .i64 o, .int .i64 p1, .int .i64 p2, .int .i64 p3, .int .i64 p4, .int .i64 p5, .int .i64 p6, .int .i64 t]).alloc (.cells #[.int .i64 0, .int .i64 0, .int .i64 0, .int .i64 0, .int .i64 0, .int .i64 0, .int .i64 0, .int .i64 0] 37))
  have R0 := hide (Blk.newE (W := w.alloc (.cells #[.int .i64 y, .int .i64 mo, .int .i64 d, .int .i64 h, .int .i64 mi, .int .i64 s, .int .i64 ms, .int .i64 o, .int .i64 p1, .int .i64 p2, .int .i64 p3, .int .i64 p4, .int .i64 p5, .int .i64 p6, .int .i64 t] 40)) (g := w.heap.size + 1) (t := 37) (cs := #[.int .i64 0, .int .i64 0, .int .i64 0, .int .i64 0, .int .i64 0, .int .i64 0, .int .i64 0, .int .i64 0]) (by simp))
  have B0 := hide (bal (bal (Below.refl w.heap.size w) (.cells #[.int .i64 y, .int .i64 mo, .int .i64 d, .int .i64 h, .int .i64 mi, .int .i64 s, .int .i64 ms, .int .i64 o, .int .i64 p1, .int .i64 p2, .int .i64 p3, .int .i64 p4, .int .i64 p5, .int .i64 p6, .int .i64 t] 40)) (.cells #[.int .i64 0, .int .i64 0, .int .i64 0, .int .i64 0, .int .i64 0, .int .i64 0, .int .i64 0, .int .i64 0] 37))
  have hV : ∀ W, Calls Tryd.prog 21 #[.agg #[.int .i64 y, .int .i64 mo, .int .i64 d, .int .i64 h, .int .i64 mi, .int .i64 s, .int .i64 ms, .int .i64 o, .int .i64 p1, .int .i64 p2, .int .i64 p3, .int .i64 p4, .int .i64 p5, .int .i64 p6, .int .i64 t]] W (RetB (rpB ⟨y, mo, d, h, mi, s, ms, o⟩ p1 p2 p3 p4 p5 p6 t) W) := fun W  => spec_rv y mo d h mi s ms o p1 p2 p3 p4 p5 p6 t W
  unfold RetB at hV
  have hld0 := loadR_row X0.out
  go_enter Tryd.func14, Tryd.ntmps14
  go_wp2_with fail
  refine (hV _).mono ?_
  rintro e w1 ⟨rfl, hb1⟩
  have X1 := hide (X0.out.below hb1 X0.out.lt)
  have R1 := hide (R0.out.below hb1 R0.out.lt)
  have B1 := hide (bto B0.out hb1)
  clear X0 R0 B0 hb1 hld0
  have hsp := R1.out.sp rfl
  have c14 := X1.out.cell 14
  simp at c14
  cases hv : rpB ⟨y, mo, d, h, mi, s, ms, o⟩ p1 p2 p3 p4 p5 p6 t with
  | false =>
    have HR := hide (show raP ⟨y, mo, d, h, mi, s, ms, o⟩ p1 p2 p3 p4 p5 p6 t n = (s0, false) by unfold raP; rw [hv]; rfl)
    clear hV hv
    go_wp2_with fail
    refine bodyPost_ret (by simp [results, Tryd.results14, go_sem, cell_sp hsp]; try rfl) rfl ?_
    exact ⟨by rw [HR.out]; rfl, brow B1.out (by omega) _⟩
  | true =>
    have HV := hide hv
    clear hv hV
    cases hi : inB n 0 t with
    | false =>
      have HR := hide (show raP ⟨y, mo, d, h, mi, s, ms, o⟩ p1 p2 p3 p4 p5 p6 t n = (s0, false) by unfold raP; rw [hi]; simp)
      go_wp2_with (go_at_call 32; refine (l6In_any _ _ _ _).mono ?_; rintro e w' ⟨rfl, rfl⟩)
      refine bodyPost_ret (by simp [results, Tryd.results14, go_sem, cell_sp hsp]; try rfl) rfl ?_
      exact ⟨by rw [HR.out]; rfl, brow B1.out (by omega) _⟩
    | true =>
      have HR := hide (show raP ⟨y, mo, d, h, mi, s, ms, o⟩ p1 p2 p3 p4 p5 p6 t n = stP ⟨y, mo, d, h, mi, s, ms, o⟩ (n * p1) (n * p2) (n * p3) (n * p4) (n * p5) (n * p6) by unfold raP; rw [hi, HV.out]; rfl)
      obtain ⟨_, hq⟩ := rp_in HV.out (inB_iff.1 hi)
      have hA : ∀ W, Calls Tryd.prog 23 #[.agg #[.int .i64 y, .int .i64 mo, .int .i64 d, .int .i64 h, .int .i64 mi, .int .i64 s, .int .i64 ms, .int .i64 o, .int .i64 p1, .int .i64 p2, .int .i64 p3, .int .i64 p4, .int .i64 p5, .int .i64 p6, .int .i64 t], .int .i64 n] W (RetS (stP ⟨y, mo, d, h, mi, s, ms, o⟩ (n * p1) (n * p2) (n * p3) (n * p4) (n * p5) (n * p6)) W) := fun W  => spec_at y mo d h mi s ms o p1 p2 p3 p4 p5 p6 t n (n * p1) (n * p2) (n * p3) (n * p4) (n * p5) (n * p6) W rfl rfl rfl rfl rfl rfl hq
      generalize stP ⟨y, mo, d, h, mi, s, ms, o⟩ (n * p1) (n * p2) (n * p3) (n * p4) (n * p5) (n * p6) = sq at *
      obtain ⟨⟨Y, M, D, H, I, S, L, O⟩, okb⟩ := sq
      unfold RetS at hA
      simp only [S8.v] at hA
      have hld1 := loadR_row X1.out
      clear hq
      go_wp2_with (go_at_call 32; refine (l6In_any _ _ _ _).mono ?_; rintro e w' ⟨rfl, rfl⟩)
      refine (hA _).mono ?_
      rintro e w2 ⟨rfl, hb2⟩
      have R2 := hide (R1.out.below hb2 R1.out.lt)
      have B2 := hide (bto B1.out hb2)
      have hsp2 := R2.out.sp rfl
      clear hsp c14 hld1 R1 B1 X1 hb2 hA hi
      go_wp2_with fail
      refine bodyPost_ret (by simp [results, Tryd.results14, go_sem, cell_sp hsp2]; try rfl) rfl ?_
      exact ⟨by rw [HR.out]; rfl, brow B2.out (by omega) _⟩
end
end
end Go.Proofs.YtaagomchjklgaaaDoor
