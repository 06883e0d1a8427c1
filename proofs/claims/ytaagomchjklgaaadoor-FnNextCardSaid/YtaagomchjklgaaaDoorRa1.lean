/- Contracts: a period with each part multiplied (the program's). -/
import Derived.Test.YtaagomchjklgaaaDoorRp2
import Derived.Test.YtaagomchjklgaaaDoorRp3
namespace Go.Proofs.YtaagomchjklgaaaDoor
open Go.RowKit

set_option maxRecDepth 100000 in
set_option maxHeartbeats 4000000 in
theorem times_any (p1 p2 p3 p4 p5 p6 n m1 m2 m3 m4 m5 m6 : Int) (w : World) (e1 : p1 * n = m1) (e2 : p2 * n = m2) (e3 : p3 * n = m3) (e4 : p4 * n = m4) (e5 : p5 * n = m5) (e6 : p6 * n = m6) (hp : pvB m1 m2 m3 m4 m5 m6 = true) :
    Calls Tryd.prog 60 #[.agg #[.int .i64 p1, .int .i64 p2, .int .i64 p3, .int .i64 p4, .int .i64 p5, .int .i64 p6], .int .i64 n] w fun e w' => e = .returned (.agg #[.int .i64 m1, .int .i64 m2, .int .i64 m3, .int .i64 m4, .int .i64 m5, .int .i64 m6]) ∧ Below w.heap.size w w' := by
  obtain ⟨pa1, pa2, pa3, pa4, pa5, pa6⟩ := pvB_iff.1 hp
  clear hp
  have X0 := hide ((Blk.new w 38 #[.int .i64 p1, .int .i64 p2, .int .i64 p3, .int .i64 p4, .int .i64 p5, .int .i64 p6]).alloc (.cells #[.int .i64 0, .int .i64 0, .int .i64 0, .int .i64 0, .int .i64 0, .int .i64 0] 38))
  have R0 := hide (Blk.newE (W := w.alloc (.cells #[.int .i64 p1, .int .i64 p2, .int .i64 p3, .int .i64 p4, .int .i64 p5, .int .i64 p6] 38)) (g := w.heap.size + 1) (t := 38) (cs := #[.int .i64 0, .int .i64 0, .int .i64 0, .int .i64 0, .int .i64 0, .int .i64 0]) (by simp))
  have B0 := hide (bal (bal (Below.refl w.heap.size w) (.cells #[.int .i64 p1, .int .i64 p2, .int .i64 p3, .int .i64 p4, .int .i64 p5, .int .i64 p6] 38)) (.cells #[.int .i64 0, .int .i64 0, .int .i64 0, .int .i64 0, .int .i64 0, .int .i64 0] 38))
  go_enter Tryd.func60, Tryd.ntmps60
  go_wp2_with fail
  refine (parts_any w.heap.size _).mono ?_
  rintro e w1 ⟨rfl, hp1, hb1⟩
  have X1 := hide (X0.out.below hb1 X0.out.lt)
  have R1 := hide (R0.out.below hb1 R0.out.lt)
  have B1 := hide (bto B0.out hb1)
  obtain ⟨gP, egP⟩ : ∃ gP, gP = (((w.alloc (.cells #[.int .i64 p1, .int .i64 p2, .int .i64 p3, .int .i64 p4, .int .i64 p5, .int .i64 p6] 38)).alloc (.cells #[.int .i64 0, .int .i64 0, .int .i64 0, .int .i64 0, .int .i64 0, .int .i64 0] 38))).heap.size := ⟨_, rfl⟩
  have hgP : w.heap.size + 1 < gP := by rw [egP]; simp
  simp only [World.size_alloc] at egP
  simp only [World.size_alloc] at hp1
  simp only [World.size_alloc]
  rw [← egP] at hp1 ⊢
  have Q1 := hide hp1
  clear X0 R0 B0 hb1 hp1 egP
  have hgl1 := Q1.out.lt
  go_wp2_with fail
  refine wp_loop_rounds 7 ?_
  rw [rounds_succ]
  have a0 := Q1.out.cell 0
  have a1 := Q1.out.cell 1
  have a2 := Q1.out.cell 2
  simp at a0 a1 a2
  have x0 : (w1.alloc (.cells #[.int .u8 89, .bool false, .pointer (some ⟨w.heap.size, 0, none⟩)] 100)).cell? ⟨w.heap.size, 0, none⟩ = some (.int .i64 p1) := (X1.out.alloc (.cells #[.int .u8 89, .bool false, .pointer (some ⟨w.heap.size, 0, none⟩)] 100)).cell 0
  have f0 : (w1.alloc (.cells #[.int .u8 89, .bool false, .pointer (some ⟨w.heap.size, 0, none⟩)] 100)).frozen? ⟨w.heap.size, 0, none⟩ = false := (X1.out.alloc (.cells #[.int .u8 89, .bool false, .pointer (some ⟨w.heap.size, 0, none⟩)] 100)).frozen 0
  go_wp2_with fail
  have X2 := (X1.out.alloc (.cells #[.int .u8 89, .bool false, .pointer (some ⟨w.heap.size, 0, none⟩)] 100)).set_ 0 (.int .i64 m1)
  simp only [List.setIfInBounds_toArray, List.set_cons_zero] at X2
  replace X2 := hide X2
  have R2 := hide ((R1.out.alloc (.cells #[.int .u8 89, .bool false, .pointer (some ⟨w.heap.size, 0, none⟩)] 100)).far (p := ⟨w.heap.size, 0, none⟩) (show w.heap.size + 1 ≠ w.heap.size by omega) (.int .i64 m1))
  have Q2 := hide ((Q1.out.alloc (.cells #[.int .u8 89, .bool false, .pointer (some ⟨w.heap.size, 0, none⟩)] 100)).far (p := ⟨w.heap.size, 0, none⟩) (show gP ≠ w.heap.size by omega) (.int .i64 m1))
  have B2 := hide (bset (bal B1.out (.cells #[.int .u8 89, .bool false, .pointer (some ⟨w.heap.size, 0, none⟩)] 100)) (p := ⟨w.heap.size, 0, none⟩) (Nat.le_refl _) (.int .i64 m1))
  clear X1 R1 Q1 B1 a0 a1 a2 x0 f0 hgl1
  generalize (w1.alloc (.cells #[.int .u8 89, .bool false, .pointer (some ⟨w.heap.size, 0, none⟩)] 100)).setCell ⟨w.heap.size, 0, none⟩ (.int .i64 m1) = w2 at *
  have hgl2 := Q2.out.lt
  rw [rounds_succ]
  have a0 := Q2.out.cell 3
  have a1 := Q2.out.cell 4
  have a2 := Q2.out.cell 5
  simp at a0 a1 a2
  have x0 : (w2.alloc (.cells #[.int .u8 77, .bool false, .pointer (some ⟨w.heap.size, 1, none⟩)] 100)).cell? ⟨w.heap.size, 1, none⟩ = some (.int .i64 p2) := (X2.out.alloc (.cells #[.int .u8 77, .bool false, .pointer (some ⟨w.heap.size, 1, none⟩)] 100)).cell 1
  have f0 : (w2.alloc (.cells #[.int .u8 77, .bool false, .pointer (some ⟨w.heap.size, 1, none⟩)] 100)).frozen? ⟨w.heap.size, 1, none⟩ = false := (X2.out.alloc (.cells #[.int .u8 77, .bool false, .pointer (some ⟨w.heap.size, 1, none⟩)] 100)).frozen 1
  go_wp2_with fail
  have X3 := (X2.out.alloc (.cells #[.int .u8 77, .bool false, .pointer (some ⟨w.heap.size, 1, none⟩)] 100)).set_ 1 (.int .i64 m2)
  simp only [List.setIfInBounds_toArray, List.set_cons_zero, List.set_cons_succ] at X3
  replace X3 := hide X3
  have R3 := hide ((R2.out.alloc (.cells #[.int .u8 77, .bool false, .pointer (some ⟨w.heap.size, 1, none⟩)] 100)).far (p := ⟨w.heap.size, 1, none⟩) (show w.heap.size + 1 ≠ w.heap.size by omega) (.int .i64 m2))
  have Q3 := hide ((Q2.out.alloc (.cells #[.int .u8 77, .bool false, .pointer (some ⟨w.heap.size, 1, none⟩)] 100)).far (p := ⟨w.heap.size, 1, none⟩) (show gP ≠ w.heap.size by omega) (.int .i64 m2))
  have B3 := hide (bset (bal B2.out (.cells #[.int .u8 77, .bool false, .pointer (some ⟨w.heap.size, 1, none⟩)] 100)) (p := ⟨w.heap.size, 1, none⟩) (Nat.le_refl _) (.int .i64 m2))
  clear X2 R2 Q2 B2 a0 a1 a2 x0 f0 hgl2
  generalize (w2.alloc (.cells #[.int .u8 77, .bool false, .pointer (some ⟨w.heap.size, 1, none⟩)] 100)).setCell ⟨w.heap.size, 1, none⟩ (.int .i64 m2) = w3 at *
  have hgl3 := Q3.out.lt
  rw [rounds_succ]
  have a0 := Q3.out.cell 6
  have a1 := Q3.out.cell 7
  have a2 := Q3.out.cell 8
  simp at a0 a1 a2
  have x0 : (w3.alloc (.cells #[.int .u8 68, .bool false, .pointer (some ⟨w.heap.size, 2, none⟩)] 100)).cell? ⟨w.heap.size, 2, none⟩ = some (.int .i64 p3) := (X3.out.alloc (.cells #[.int .u8 68, .bool false, .pointer (some ⟨w.heap.size, 2, none⟩)] 100)).cell 2
  have f0 : (w3.alloc (.cells #[.int .u8 68, .bool false, .pointer (some ⟨w.heap.size, 2, none⟩)] 100)).frozen? ⟨w.heap.size, 2, none⟩ = false := (X3.out.alloc (.cells #[.int .u8 68, .bool false, .pointer (some ⟨w.heap.size, 2, none⟩)] 100)).frozen 2
  go_wp2_with fail
  have X4 := (X3.out.alloc (.cells #[.int .u8 68, .bool false, .pointer (some ⟨w.heap.size, 2, none⟩)] 100)).set_ 2 (.int .i64 m3)
  simp only [List.setIfInBounds_toArray, List.set_cons_zero, List.set_cons_succ] at X4
  replace X4 := hide X4
  have R4 := hide ((R3.out.alloc (.cells #[.int .u8 68, .bool false, .pointer (some ⟨w.heap.size, 2, none⟩)] 100)).far (p := ⟨w.heap.size, 2, none⟩) (show w.heap.size + 1 ≠ w.heap.size by omega) (.int .i64 m3))
  have Q4 := hide ((Q3.out.alloc (.cells #[.int .u8 68, .bool false, .pointer (some ⟨w.heap.size, 2, none⟩)] 100)).far (p := ⟨w.heap.size, 2, none⟩) (show gP ≠ w.heap.size by omega) (.int .i64 m3))
  have B4 := hide (bset (bal B3.out (.cells #[.int .u8 68, .bool false, .pointer (some ⟨w.heap.size, 2, none⟩)] 100)) (p := ⟨w.heap.size, 2, none⟩) (Nat.le_refl _) (.int .i64 m3))
  clear X3 R3 Q3 B3 a0 a1 a2 x0 f0 hgl3
  generalize (w3.alloc (.cells #[.int .u8 68, .bool false, .pointer (some ⟨w.heap.size, 2, none⟩)] 100)).setCell ⟨w.heap.size, 2, none⟩ (.int .i64 m3) = w4 at *
  have hgl4 := Q4.out.lt
  rw [rounds_succ]
  have a0 := Q4.out.cell 9
  have a1 := Q4.out.cell 10
  have a2 := Q4.out.cell 11
  simp at a0 a1 a2
  have x0 : (w4.alloc (.cells #[.int .u8 72, .bool true, .pointer (some ⟨w.heap.size, 3, none⟩)] 100)).cell? ⟨w.heap.size, 3, none⟩ = some (.int .i64 p4) := (X4.out.alloc (.cells #[.int .u8 72, .bool true, .pointer (some ⟨w.heap.size, 3, none⟩)] 100)).cell 3
  have f0 : (w4.alloc (.cells #[.int .u8 72, .bool true, .pointer (some ⟨w.heap.size, 3, none⟩)] 100)).frozen? ⟨w.heap.size, 3, none⟩ = false := (X4.out.alloc (.cells #[.int .u8 72, .bool true, .pointer (some ⟨w.heap.size, 3, none⟩)] 100)).frozen 3
  go_wp2_with fail
  have X5 := (X4.out.alloc (.cells #[.int .u8 72, .bool true, .pointer (some ⟨w.heap.size, 3, none⟩)] 100)).set_ 3 (.int .i64 m4)
  simp only [List.setIfInBounds_toArray, List.set_cons_zero, List.set_cons_succ] at X5
  replace X5 := hide X5
  have R5 := hide ((R4.out.alloc (.cells #[.int .u8 72, .bool true, .pointer (some ⟨w.heap.size, 3, none⟩)] 100)).far (p := ⟨w.heap.size, 3, none⟩) (show w.heap.size + 1 ≠ w.heap.size by omega) (.int .i64 m4))
  have Q5 := hide ((Q4.out.alloc (.cells #[.int .u8 72, .bool true, .pointer (some ⟨w.heap.size, 3, none⟩)] 100)).far (p := ⟨w.heap.size, 3, none⟩) (show gP ≠ w.heap.size by omega) (.int .i64 m4))
  have B5 := hide (bset (bal B4.out (.cells #[.int .u8 72, .bool true, .pointer (some ⟨w.heap.size, 3, none⟩)] 100)) (p := ⟨w.heap.size, 3, none⟩) (Nat.le_refl _) (.int .i64 m4))
  clear X4 R4 Q4 B4 a0 a1 a2 x0 f0 hgl4
  generalize (w4.alloc (.cells #[.int .u8 72, .bool true, .pointer (some ⟨w.heap.size, 3, none⟩)] 100)).setCell ⟨w.heap.size, 3, none⟩ (.int .i64 m4) = w5 at *
  have hgl5 := Q5.out.lt
  rw [rounds_succ]
  have a0 := Q5.out.cell 12
  have a1 := Q5.out.cell 13
  have a2 := Q5.out.cell 14
  simp at a0 a1 a2
  have x0 : (w5.alloc (.cells #[.int .u8 77, .bool true, .pointer (some ⟨w.heap.size, 4, none⟩)] 100)).cell? ⟨w.heap.size, 4, none⟩ = some (.int .i64 p5) := (X5.out.alloc (.cells #[.int .u8 77, .bool true, .pointer (some ⟨w.heap.size, 4, none⟩)] 100)).cell 4
  have f0 : (w5.alloc (.cells #[.int .u8 77, .bool true, .pointer (some ⟨w.heap.size, 4, none⟩)] 100)).frozen? ⟨w.heap.size, 4, none⟩ = false := (X5.out.alloc (.cells #[.int .u8 77, .bool true, .pointer (some ⟨w.heap.size, 4, none⟩)] 100)).frozen 4
  go_wp2_with fail
  have X6 := (X5.out.alloc (.cells #[.int .u8 77, .bool true, .pointer (some ⟨w.heap.size, 4, none⟩)] 100)).set_ 4 (.int .i64 m5)
  simp only [List.setIfInBounds_toArray, List.set_cons_zero, List.set_cons_succ] at X6
  replace X6 := hide X6
  have R6 := hide ((R5.out.alloc (.cells #[.int .u8 77, .bool true, .pointer (some ⟨w.heap.size, 4, none⟩)] 100)).far (p := ⟨w.heap.size, 4, none⟩) (show w.heap.size + 1 ≠ w.heap.size by omega) (.int .i64 m5))
  have Q6 := hide ((Q5.out.alloc (.cells #[.int .u8 77, .bool true, .pointer (some ⟨w.heap.size, 4, none⟩)] 100)).far (p := ⟨w.heap.size, 4, none⟩) (show gP ≠ w.heap.size by omega) (.int .i64 m5))
  have B6 := hide (bset (bal B5.out (.cells #[.int .u8 77, .bool true, .pointer (some ⟨w.heap.size, 4, none⟩)] 100)) (p := ⟨w.heap.size, 4, none⟩) (Nat.le_refl _) (.int .i64 m5))
  clear X5 R5 Q5 B5 a0 a1 a2 x0 f0 hgl5
  generalize (w5.alloc (.cells #[.int .u8 77, .bool true, .pointer (some ⟨w.heap.size, 4, none⟩)] 100)).setCell ⟨w.heap.size, 4, none⟩ (.int .i64 m5) = w6 at *
  have hgl6 := Q6.out.lt
  rw [rounds_succ]
  have a0 := Q6.out.cell 15
  have a1 := Q6.out.cell 16
  have a2 := Q6.out.cell 17
  simp at a0 a1 a2
  have x0 : (w6.alloc (.cells #[.int .u8 83, .bool true, .pointer (some ⟨w.heap.size, 5, none⟩)] 100)).cell? ⟨w.heap.size, 5, none⟩ = some (.int .i64 p6) := (X6.out.alloc (.cells #[.int .u8 83, .bool true, .pointer (some ⟨w.heap.size, 5, none⟩)] 100)).cell 5
  have f0 : (w6.alloc (.cells #[.int .u8 83, .bool true, .pointer (some ⟨w.heap.size, 5, none⟩)] 100)).frozen? ⟨w.heap.size, 5, none⟩ = false := (X6.out.alloc (.cells #[.int .u8 83, .bool true, .pointer (some ⟨w.heap.size, 5, none⟩)] 100)).frozen 5
  go_wp2_with fail
  have X7 := (X6.out.alloc (.cells #[.int .u8 83, .bool true, .pointer (some ⟨w.heap.size, 5, none⟩)] 100)).set_ 5 (.int .i64 m6)
  simp only [List.setIfInBounds_toArray, List.set_cons_zero, List.set_cons_succ] at X7
  replace X7 := hide X7
  have R7 := hide ((R6.out.alloc (.cells #[.int .u8 83, .bool true, .pointer (some ⟨w.heap.size, 5, none⟩)] 100)).far (p := ⟨w.heap.size, 5, none⟩) (show w.heap.size + 1 ≠ w.heap.size by omega) (.int .i64 m6))
  have Q7 := hide ((Q6.out.alloc (.cells #[.int .u8 83, .bool true, .pointer (some ⟨w.heap.size, 5, none⟩)] 100)).far (p := ⟨w.heap.size, 5, none⟩) (show gP ≠ w.heap.size by omega) (.int .i64 m6))
  have B7 := hide (bset (bal B6.out (.cells #[.int .u8 83, .bool true, .pointer (some ⟨w.heap.size, 5, none⟩)] 100)) (p := ⟨w.heap.size, 5, none⟩) (Nat.le_refl _) (.int .i64 m6))
  clear X6 R6 Q6 B6 a0 a1 a2 x0 f0 hgl6
  generalize (w6.alloc (.cells #[.int .u8 83, .bool true, .pointer (some ⟨w.heap.size, 5, none⟩)] 100)).setCell ⟨w.heap.size, 5, none⟩ (.int .i64 m6) = w7 at *
  have hgl7 := Q7.out.lt
  rw [rounds_succ]
  have x0 := X7.out.cell 0
  have x1 := X7.out.cell 1
  have x2 := X7.out.cell 2
  have x3 := X7.out.cell 3
  have x4 := X7.out.cell 4
  have x5 := X7.out.cell 5
  have r0 := R7.out.cell 0
  have r1 := R7.out.cell 1
  have r2 := R7.out.cell 2
  have r3 := R7.out.cell 3
  have r4 := R7.out.cell 4
  have r5 := R7.out.cell 5
  have f0 := R7.out.frozen 0
  have f1 := R7.out.frozen 1
  have f2 := R7.out.frozen 2
  have f3 := R7.out.frozen 3
  have f4 := R7.out.frozen 4
  have f5 := R7.out.frozen 5
  simp at x0 x1 x2 x3 x4 x5 r0 r1 r2 r3 r4 r5
  have RR := ((((((R7.out.set_ 0 (.int .i64 m1)).set_ 1 (.int .i64 m2)).set_ 2 (.int .i64 m3)).set_ 3 (.int .i64 m4)).set_ 4 (.int .i64 m5)).set_ 5 (.int .i64 m6))
  simp only [List.setIfInBounds_toArray, List.set_cons_zero, List.set_cons_succ] at RR
  have k0 := RR.cell 0
  have k1 := RR.cell 1
  have k2 := RR.cell 2
  have k3 := RR.cell 3
  have k4 := RR.cell 4
  have k5 := RR.cell 5
  simp at k0 k1 k2 k3 k4 k5
  have BB := hide (bset (bset (bset (bset (bset (bset B7.out (p := ⟨w.heap.size + 1, 0, none⟩) (show w.heap.size ≤ w.heap.size + 1 by omega) (.int .i64 m1)) (p := ⟨w.heap.size + 1, 1, none⟩) (show w.heap.size ≤ w.heap.size + 1 by omega) (.int .i64 m2)) (p := ⟨w.heap.size + 1, 2, none⟩) (show w.heap.size ≤ w.heap.size + 1 by omega) (.int .i64 m3)) (p := ⟨w.heap.size + 1, 3, none⟩) (show w.heap.size ≤ w.heap.size + 1 by omega) (.int .i64 m4)) (p := ⟨w.heap.size + 1, 4, none⟩) (show w.heap.size ≤ w.heap.size + 1 by omega) (.int .i64 m5)) (p := ⟨w.heap.size + 1, 5, none⟩) (show w.heap.size ≤ w.heap.size + 1 by omega) (.int .i64 m6))
  clear X7 R7 Q7 B7 RR
  go_wp2_with fail
  refine bodyPost_ret (by simp [results, Tryd.results60, go_sem, k0, k1, k2, k3, k4, k5]; try rfl) rfl ?_
  exact ⟨rfl, BB.out⟩
end Go.Proofs.YtaagomchjklgaaaDoor
