/- WorkPlus: the reference. -/
import Derived.Test.YtdflacnegkgljaaDoorWd5
namespace Go.Proofs.YtdflacnegkgljaaDoor
open Go.RowKit
set_option maxRecDepth 100000 in
set_option maxHeartbeats 4000000 in
theorem spec_wp_bad (y mo d n : Int) (l : List D3) (len cap B : Nat) (A : Option Addr) (w : World) (hl : l.length = len) (hP : Drs B w A l) (hB : B ≤ w.heap.size) (hm : len ≤ 2305843009213693951) (hb : (vld y mo d && (hvB l && inB n 0 500)) = false) :
    Calls Tryd.prog 29 #[.agg #[.int .i64 y, .int .i64 mo, .int .i64 d], .int .i64 n, .slice A len cap] w fun e w' => e = .returned (.tuple #[.agg #[.int .i64 0, .int .i64 0, .int .i64 0], .bool false]) ∧ Below w.heap.size w w' := by
  have HL := hide hl
  have B0 := hide (bal (bal (Below.refl w.heap.size w) (.cells #[.int .i64 y, .int .i64 mo, .int .i64 d] 25)) (.cells #[.int .i64 0, .int .i64 0, .int .i64 0] 25))
  have X0 := hide ((Blk.new w 25 #[.int .i64 y, .int .i64 mo, .int .i64 d]).alloc (.cells #[.int .i64 0, .int .i64 0, .int .i64 0] 25))
  have R0 := hide (Blk.newE (W := w.alloc (.cells #[.int .i64 y, .int .i64 mo, .int .i64 d] 25)) (g := w.heap.size + 1) (t := 25) (cs := #[.int .i64 0, .int .i64 0, .int .i64 0]) (by simp))
  have HP0 := hide (hP.below' B0.out hB)
  cases h1 : vld y mo d with
  | false =>
    go_enter Tryd.func29, Tryd.ntmps29
    go_wp2_with fail
    refine (spec_dateValid y mo d _).mono ?_
    rintro e w1 ⟨rfl, hb1⟩
    have X1 := hide (X0.out.below hb1 X0.out.lt)
    have R1 := hide (R0.out.below hb1 R0.out.lt)
    have B1 := hide (bto B0.out hb1)
    have HP1 := hide (hP.below' B1.out hB)
    clear hb1 X0 R0
    rw [h1]
    have r0 := R1.out.cell 0
    have r1 := R1.out.cell 1
    have r2 := R1.out.cell 2
    have f0 := R1.out.frozen 0
    have f1 := R1.out.frozen 1
    have f2 := R1.out.frozen 2
    simp at r0 r1 r2
    have RR := ((R1.out.set_ 0 (.int .i64 0)).set_ 1 (.int .i64 0)).set_ 2 (.int .i64 0)
    have q0 := RR.cell 0
    have q1 := RR.cell 1
    have q2 := RR.cell 2
    simp at q0 q1 q2
    clear RR
    go_wp2_with fail
    refine bodyPost_ret (by simp [results, Tryd.results29, go_sem, q0, q1, q2]; try rfl) rfl ?_
    exact ⟨rfl, bset (bset (bset B1.out (p := ⟨w.heap.size + 1, 0, none⟩) (by simp) _) (p := ⟨w.heap.size + 1, 1, none⟩) (by simp) _) (p := ⟨w.heap.size + 1, 2, none⟩) (by simp) _⟩
  | true =>
    rw [h1] at hb
    simp only [Bool.true_and] at hb
    cases h2 : hvB l with
    | false =>
      go_enter Tryd.func29, Tryd.ntmps29
      go_wp2_with fail
      refine (spec_dateValid y mo d _).mono ?_
      rintro e w1 ⟨rfl, hb1⟩
      have X1 := hide (X0.out.below hb1 X0.out.lt)
      have R1 := hide (R0.out.below hb1 R0.out.lt)
      have B1 := hide (bto B0.out hb1)
      have HP1 := hide (hP.below' B1.out hB)
      clear hb1 X0 R0
      rw [h1]
      go_wp2_with fail
      refine (spec_hv l _ _ B _ _ HL.out HP1.out (by have hsx := B1.out.size; omega) hm).mono ?_
      rintro e w2 ⟨rfl, hb2⟩
      have X2 := hide (X1.out.below hb2 X1.out.lt)
      have R2 := hide (R1.out.below hb2 R1.out.lt)
      have B2 := hide (bto B1.out hb2)
      clear hb2 X1 R1
      rw [h2]
      have r0 := R2.out.cell 0
      have r1 := R2.out.cell 1
      have r2 := R2.out.cell 2
      have f0 := R2.out.frozen 0
      have f1 := R2.out.frozen 1
      have f2 := R2.out.frozen 2
      simp at r0 r1 r2
      have RR := ((R2.out.set_ 0 (.int .i64 0)).set_ 1 (.int .i64 0)).set_ 2 (.int .i64 0)
      have q0 := RR.cell 0
      have q1 := RR.cell 1
      have q2 := RR.cell 2
      simp at q0 q1 q2
      clear RR
      go_wp2_with fail
      refine bodyPost_ret (by simp [results, Tryd.results29, go_sem, q0, q1, q2]; try rfl) rfl ?_
      exact ⟨rfl, bset (bset (bset B2.out (p := ⟨w.heap.size + 1, 0, none⟩) (by simp) _) (p := ⟨w.heap.size + 1, 1, none⟩) (by simp) _) (p := ⟨w.heap.size + 1, 2, none⟩) (by simp) _⟩
    | true =>
      have h3 : inB n 0 500 = false := by rw [h2] at hb; simpa using hb
      go_enter Tryd.func29, Tryd.ntmps29
      go_wp2_with fail
      refine (spec_dateValid y mo d _).mono ?_
      rintro e w1 ⟨rfl, hb1⟩
      have X1 := hide (X0.out.below hb1 X0.out.lt)
      have R1 := hide (R0.out.below hb1 R0.out.lt)
      have B1 := hide (bto B0.out hb1)
      have HP1 := hide (hP.below' B1.out hB)
      clear hb1 X0 R0
      rw [h1]
      go_wp2_with fail
      refine (spec_hv l _ _ B _ _ HL.out HP1.out (by have hsx := B1.out.size; omega) hm).mono ?_
      rintro e w2 ⟨rfl, hb2⟩
      have X2 := hide (X1.out.below hb2 X1.out.lt)
      have R2 := hide (R1.out.below hb2 R1.out.lt)
      have B2 := hide (bto B1.out hb2)
      clear hb2 X1 R1
      rw [h2]
      have r0 := R2.out.cell 0
      have r1 := R2.out.cell 1
      have r2 := R2.out.cell 2
      have f0 := R2.out.frozen 0
      have f1 := R2.out.frozen 1
      have f2 := R2.out.frozen 2
      simp at r0 r1 r2
      have RR := ((R2.out.set_ 0 (.int .i64 0)).set_ 1 (.int .i64 0)).set_ 2 (.int .i64 0)
      have q0 := RR.cell 0
      have q1 := RR.cell 1
      have q2 := RR.cell 2
      simp at q0 q1 q2
      clear RR
      go_wp2_with (go_at_call 38; refine (l6In_any _ _ _ _).mono ?_; rintro e w' ⟨rfl, rfl⟩)
      refine bodyPost_ret (by simp [results, Tryd.results29, go_sem, q0, q1, q2]; try rfl) rfl ?_
      exact ⟨rfl, bset (bset (bset B2.out (p := ⟨w.heap.size + 1, 0, none⟩) (by simp) _) (p := ⟨w.heap.size + 1, 1, none⟩) (by simp) _) (p := ⟨w.heap.size + 1, 2, none⟩) (by simp) _⟩
set_option maxRecDepth 100000 in
set_option maxHeartbeats 4000000 in
theorem spec_wp_0 (y mo d n : Int) (l : List D3) (len cap B : Nat) (A : Option Addr) (w : World) (hl : l.length = len) (hP : Drs B w A l) (hB : B ≤ w.heap.size) (hm : len ≤ 2305843009213693951) (h1 : vld y mo d = true) (h2 : hvB l = true) (hn : n = 0)  :
    Calls Tryd.prog 29 #[.agg #[.int .i64 y, .int .i64 mo, .int .i64 d], .int .i64 n, .slice A len cap] w fun e w' => e = .returned (.tuple #[.agg #[.int .i64 y, .int .i64 mo, .int .i64 d], .bool true]) ∧ Below w.heap.size w w' := by
  have HL := hide hl
  have B0 := hide (bal (bal (Below.refl w.heap.size w) (.cells #[.int .i64 y, .int .i64 mo, .int .i64 d] 25)) (.cells #[.int .i64 0, .int .i64 0, .int .i64 0] 25))
  have X0 := hide ((Blk.new w 25 #[.int .i64 y, .int .i64 mo, .int .i64 d]).alloc (.cells #[.int .i64 0, .int .i64 0, .int .i64 0] 25))
  have R0 := hide (Blk.newE (W := w.alloc (.cells #[.int .i64 y, .int .i64 mo, .int .i64 d] 25)) (g := w.heap.size + 1) (t := 25) (cs := #[.int .i64 0, .int .i64 0, .int .i64 0]) (by simp))
  have HP0 := hide (hP.below' B0.out hB)
  subst hn
  have h3 : inB 0 0 500 = true := by decide
  have hnd := num_bd h1
  go_enter Tryd.func29, Tryd.ntmps29
  go_wp2_with fail
  refine (spec_dateValid y mo d _).mono ?_
  rintro e w1 ⟨rfl, hb1⟩
  have X1 := hide (X0.out.below hb1 X0.out.lt)
  have R1 := hide (R0.out.below hb1 R0.out.lt)
  have B1 := hide (bto B0.out hb1)
  have HP1 := hide (hP.below' B1.out hB)
  clear hb1 X0 R0
  rw [h1]
  go_wp2_with fail
  refine (spec_hv l _ _ B _ _ HL.out HP1.out (by have hsx := B1.out.size; omega) hm).mono ?_
  rintro e w2 ⟨rfl, hb2⟩
  have X2 := hide (X1.out.below hb2 X1.out.lt)
  have R2 := hide (R1.out.below hb2 R1.out.lt)
  have B2 := hide (bto B1.out hb2)
  clear hb2 X1 R1 HP1
  rw [h2]
  have x0 := X2.out.cell 0
  have x1 := X2.out.cell 1
  have x2 := X2.out.cell 2
  simp at x0 x1 x2
  go_wp2_with (go_at_call 38; refine (l6In_any _ _ _ _).mono ?_; rintro e w' ⟨rfl, rfl⟩)
  refine (spec_dayNumber y mo d _).mono ?_
  rintro e w3 ⟨rfl, hb3⟩
  rw [dnum_yes h1]
  have R3 := hide (R2.out.below hb3 R2.out.lt)
  have B3 := hide (bto B2.out hb3)
  have HP3 := hide (hP.below' B3.out hB)
  have hB3 : B ≤ w3.heap.size := Nat.le_trans hB B3.out.size
  have HVL := hide (hvB_all h2)
  obtain ⟨e1, e2, e3⟩ := dateD_of h1 rfl
  have HE := hide (⟨e1, e2, e3⟩ : _ ∧ _ ∧ _)
  clear hb3 X2 R2 B2 B1 B0 x0 x1 x2 hP HP0 e1 e2 e3
  go_wp2_with fail
  refine wp_loop_rounds 1 ?_
  rw [rounds_succ]
  go_wp2_with fail
  refine (spec_dateOf_yes (num y mo d) _ (by omega) (by omega)).mono ?_
  rintro e w6 ⟨rfl, hb6⟩
  obtain ⟨e1, e2, e3⟩ := HE.out
  rw [e1, e2, e3]
  have R6 := hide (R3.out.below hb6 R3.out.lt)
  have B6 := hide (bto B3.out hb6)
  clear hb6 R3 B3
  have r0 := R6.out.cell 0
  have r1 := R6.out.cell 1
  have r2 := R6.out.cell 2
  have f0 := R6.out.frozen 0
  have f1 := R6.out.frozen 1
  have f2 := R6.out.frozen 2
  simp at r0 r1 r2
  have RR := ((R6.out.set_ 0 (.int .i64 y)).set_ 1 (.int .i64 mo)).set_ 2 (.int .i64 d)
  have q0 := RR.cell 0
  have q1 := RR.cell 1
  have q2 := RR.cell 2
  simp at q0 q1 q2
  clear RR
  go_wp2_with fail
  refine bodyPost_ret (by simp [results, Tryd.results29, go_sem, q0, q1, q2]; try rfl) rfl ?_
  exact ⟨rfl, bset (bset (bset B6.out (p := ⟨w.heap.size + 1, 0, none⟩) (by simp) _) (p := ⟨w.heap.size + 1, 1, none⟩) (by simp) _) (p := ⟨w.heap.size + 1, 2, none⟩) (by simp) _⟩
set_option maxRecDepth 100000 in
set_option maxHeartbeats 4000000 in
theorem spec_wp_yes (y mo d n : Int) (l : List D3) (len cap B : Nat) (A : Option Addr) (w : World) (hl : l.length = len) (hP : Drs B w A l) (hB : B ≤ w.heap.size) (hm : len ≤ 2305843009213693951) (h1 : vld y mo d = true) (h2 : hvB l = true) (hn1 : 1 ≤ n) (hn2 : n ≤ 500) (a : Int) (ha : num y mo d + 1 = a) (k : Nat) (hk : a + (k : Int) ≤ 3652058) (hN : Nth (nums l) a n.toNat k) :
    Calls Tryd.prog 29 #[.agg #[.int .i64 y, .int .i64 mo, .int .i64 d], .int .i64 n, .slice A len cap] w fun e w' => e = .returned (.tuple #[.agg #[.int .i64 (yOf (a + k)), .int .i64 (mOf (a + k)), .int .i64 (dOf (a + k))], .bool true]) ∧ Below w.heap.size w w' := by
  have HL := hide hl
  have B0 := hide (bal (bal (Below.refl w.heap.size w) (.cells #[.int .i64 y, .int .i64 mo, .int .i64 d] 25)) (.cells #[.int .i64 0, .int .i64 0, .int .i64 0] 25))
  have X0 := hide ((Blk.new w 25 #[.int .i64 y, .int .i64 mo, .int .i64 d]).alloc (.cells #[.int .i64 0, .int .i64 0, .int .i64 0] 25))
  have R0 := hide (Blk.newE (W := w.alloc (.cells #[.int .i64 y, .int .i64 mo, .int .i64 d] 25)) (g := w.heap.size + 1) (t := 25) (cs := #[.int .i64 0, .int .i64 0, .int .i64 0]) (by simp))
  have HP0 := hide (hP.below' B0.out hB)
  have h3 : inB n 0 500 = true := inB_true (by omega) hn2
  have hnd := num_bd h1
  go_enter Tryd.func29, Tryd.ntmps29
  go_wp2_with fail
  refine (spec_dateValid y mo d _).mono ?_
  rintro e w1 ⟨rfl, hb1⟩
  have X1 := hide (X0.out.below hb1 X0.out.lt)
  have R1 := hide (R0.out.below hb1 R0.out.lt)
  have B1 := hide (bto B0.out hb1)
  have HP1 := hide (hP.below' B1.out hB)
  clear hb1 X0 R0
  rw [h1]
  go_wp2_with fail
  refine (spec_hv l _ _ B _ _ HL.out HP1.out (by have hsx := B1.out.size; omega) hm).mono ?_
  rintro e w2 ⟨rfl, hb2⟩
  have X2 := hide (X1.out.below hb2 X1.out.lt)
  have R2 := hide (R1.out.below hb2 R1.out.lt)
  have B2 := hide (bto B1.out hb2)
  clear hb2 X1 R1 HP1
  rw [h2]
  have x0 := X2.out.cell 0
  have x1 := X2.out.cell 1
  have x2 := X2.out.cell 2
  simp at x0 x1 x2
  go_wp2_with (go_at_call 38; refine (l6In_any _ _ _ _).mono ?_; rintro e w' ⟨rfl, rfl⟩)
  refine (spec_dayNumber y mo d _).mono ?_
  rintro e w3 ⟨rfl, hb3⟩
  rw [dnum_yes h1]
  have R3 := hide (R2.out.below hb3 R2.out.lt)
  have B3 := hide (bto B2.out hb3)
  have HP3 := hide (hP.below' B3.out hB)
  have hB3 : B ≤ w3.heap.size := Nat.le_trans hB B3.out.size
  have HVL := hide (hvB_all h2)
  have hz : num y mo d = a - 1 := by omega
  rw [hz]
  have HN := hide hN
  clear hb3 X2 R2 B2 B1 B0 x0 x1 x2 hP HP0 hN h3 hz
  go_wp2_with fail
  go_loopw [1, 8] (fun nn dd wr => ∃ i : Nat, i ≤ k + 1 ∧ dd = .int .i64 (a - 1 + i) ∧ nn = .int .i64 (n - cnt (nums l) a i) ∧ Below w3.heap.size w3 wr) (fun _ dd _ => (4000000 - intOf dd).toNat)
  case atStart => exact ⟨0, by omega, by simp, by simp [cnt], Below.refl _ _⟩
  case round =>
    obtain ⟨i, hi, rfl, rfl, hbr⟩ := hrel
    have hci := cnt_le (nums l) a i
    by_cases hlt : i < k + 1
    · have hcn : (cnt (nums l) a i : Int) < n := by
        have h4 := cnt_mono (nums l) a (show i ≤ k by omega)
        have h5 := HN.out.2
        omega
      have gn : decide (0 < n - (cnt (nums l) a i : Int)) = true := by rw [decide_eq_true_iff]; omega
      have gd : decide (a - 1 + (i : Int) ≤ 3652058) = true := by rw [decide_eq_true_iff]; omega
      have eai : a - 1 + (i : Int) + 1 = a + i := by omega
      go_wp2_with fail
      refine (spec_works l (a + i) _ _ B _ _ (by omega) (by omega) HVL.out HL.out (HP3.out.below' hbr hB3) (Nat.le_trans hB3 hbr.size) hm).mono ?_
      rintro e w4 ⟨rfl, hb4⟩
      have hbr4 := bto hbr hb4
      cases hw : wkB (nums l) (a + i) with
      | true =>
        have HC := hide (cnt_yes hw)
        go_wp2_with fail
        go_roundw
        case rel => exact ⟨i + 1, by omega, by go_num, by rw [HC.out]; exact congrArg (Value.int .i64) (by omega), hbr4⟩
        case measure => simp [intOf]; omega
      | false =>
        have HC := hide (cnt_no hw)
        go_wp2_with fail
        go_roundw
        case rel => exact ⟨i + 1, by omega, by go_num, by rw [HC.out], hbr4⟩
        case measure => simp [intOf]; omega
    · have R5 := hide (R3.out.below hbr R3.out.lt)
      have B5 := hide (bto B3.out hbr)
      obtain rfl : i = k + 1 := by omega
      have hce : (cnt (nums l) a (k + 1) : Int) = n := by
        have h4 := HN.out.cnt_succ
        omega
      have gn : decide (0 < n - (cnt (nums l) a (k + 1) : Int)) = false := by rw [decide_eq_false_iff_not]; omega
      have eak : a - 1 + ((k + 1 : Nat) : Int) = a + k := by omega
      rw [eak]
      go_wp2_with fail
      refine (spec_dateOf_yes (a + k) _ (by omega) (by omega)).mono ?_
      rintro e w6 ⟨rfl, hb6⟩
      have R6 := hide (R5.out.below hb6 R5.out.lt)
      have B6 := hide (bto B5.out hb6)
      clear hb6 R5 B5
      have r0 := R6.out.cell 0
      have r1 := R6.out.cell 1
      have r2 := R6.out.cell 2
      have f0 := R6.out.frozen 0
      have f1 := R6.out.frozen 1
      have f2 := R6.out.frozen 2
      simp at r0 r1 r2
      have RR := ((R6.out.set_ 0 (.int .i64 (yOf (a + k)))).set_ 1 (.int .i64 (mOf (a + k)))).set_ 2 (.int .i64 (dOf (a + k)))
      have q0 := RR.cell 0
      have q1 := RR.cell 1
      have q2 := RR.cell 2
      simp at q0 q1 q2
      clear RR
      go_wp2_with fail
      refine bodyPost_ret (by simp [results, Tryd.results29, go_sem, q0, q1, q2]; try rfl) rfl ?_
      exact ⟨rfl, bset (bset (bset B6.out (p := ⟨w.heap.size + 1, 0, none⟩) (by simp) _) (p := ⟨w.heap.size + 1, 1, none⟩) (by simp) _) (p := ⟨w.heap.size + 1, 2, none⟩) (by simp) _⟩
set_option maxRecDepth 100000 in
set_option maxHeartbeats 4000000 in
theorem spec_wp_no (y mo d n : Int) (l : List D3) (len cap B : Nat) (A : Option Addr) (w : World) (hl : l.length = len) (hP : Drs B w A l) (hB : B ≤ w.heap.size) (hm : len ≤ 2305843009213693951) (h1 : vld y mo d = true) (h2 : hvB l = true) (hn1 : 1 ≤ n) (hn2 : n ≤ 500) (a : Int) (ha : num y mo d + 1 = a) (M : Nat) (hMM : a + (M : Int) = 3652059) (hN : cnt (nums l) a M < n.toNat) :
    Calls Tryd.prog 29 #[.agg #[.int .i64 y, .int .i64 mo, .int .i64 d], .int .i64 n, .slice A len cap] w fun e w' => e = .returned (.tuple #[.agg #[.int .i64 0, .int .i64 0, .int .i64 0], .bool false]) ∧ Below w.heap.size w w' := by
  have HL := hide hl
  have B0 := hide (bal (bal (Below.refl w.heap.size w) (.cells #[.int .i64 y, .int .i64 mo, .int .i64 d] 25)) (.cells #[.int .i64 0, .int .i64 0, .int .i64 0] 25))
  have X0 := hide ((Blk.new w 25 #[.int .i64 y, .int .i64 mo, .int .i64 d]).alloc (.cells #[.int .i64 0, .int .i64 0, .int .i64 0] 25))
  have R0 := hide (Blk.newE (W := w.alloc (.cells #[.int .i64 y, .int .i64 mo, .int .i64 d] 25)) (g := w.heap.size + 1) (t := 25) (cs := #[.int .i64 0, .int .i64 0, .int .i64 0]) (by simp))
  have HP0 := hide (hP.below' B0.out hB)
  have h3 : inB n 0 500 = true := inB_true (by omega) hn2
  have hnd := num_bd h1
  go_enter Tryd.func29, Tryd.ntmps29
  go_wp2_with fail
  refine (spec_dateValid y mo d _).mono ?_
  rintro e w1 ⟨rfl, hb1⟩
  have X1 := hide (X0.out.below hb1 X0.out.lt)
  have R1 := hide (R0.out.below hb1 R0.out.lt)
  have B1 := hide (bto B0.out hb1)
  have HP1 := hide (hP.below' B1.out hB)
  clear hb1 X0 R0
  rw [h1]
  go_wp2_with fail
  refine (spec_hv l _ _ B _ _ HL.out HP1.out (by have hsx := B1.out.size; omega) hm).mono ?_
  rintro e w2 ⟨rfl, hb2⟩
  have X2 := hide (X1.out.below hb2 X1.out.lt)
  have R2 := hide (R1.out.below hb2 R1.out.lt)
  have B2 := hide (bto B1.out hb2)
  clear hb2 X1 R1 HP1
  rw [h2]
  have x0 := X2.out.cell 0
  have x1 := X2.out.cell 1
  have x2 := X2.out.cell 2
  simp at x0 x1 x2
  go_wp2_with (go_at_call 38; refine (l6In_any _ _ _ _).mono ?_; rintro e w' ⟨rfl, rfl⟩)
  refine (spec_dayNumber y mo d _).mono ?_
  rintro e w3 ⟨rfl, hb3⟩
  rw [dnum_yes h1]
  have R3 := hide (R2.out.below hb3 R2.out.lt)
  have B3 := hide (bto B2.out hb3)
  have HP3 := hide (hP.below' B3.out hB)
  have hB3 : B ≤ w3.heap.size := Nat.le_trans hB B3.out.size
  have HVL := hide (hvB_all h2)
  have hz : num y mo d = a - 1 := by omega
  rw [hz]
  have HN := hide hN
  clear hb3 X2 R2 B2 B1 B0 x0 x1 x2 hP HP0 hN h3 hz
  go_wp2_with fail
  go_loopw [1, 8] (fun nn dd wr => ∃ i : Nat, i ≤ M + 1 ∧ dd = .int .i64 (a - 1 + i) ∧ nn = .int .i64 (n - cnt (nums l) a i) ∧ Below w3.heap.size w3 wr) (fun _ dd _ => (4000000 - intOf dd).toNat)
  case atStart => exact ⟨0, by omega, by simp, by simp [cnt], Below.refl _ _⟩
  case round =>
    obtain ⟨i, hi, rfl, rfl, hbr⟩ := hrel
    have hci := cnt_le (nums l) a i
    by_cases hlt : i < M + 1
    · have hcn : (cnt (nums l) a i : Int) < n := by
        have h4 := cnt_mono (nums l) a (show i ≤ M by omega)
        have h5 := HN.out
        omega
      have gn : decide (0 < n - (cnt (nums l) a i : Int)) = true := by rw [decide_eq_true_iff]; omega
      have gd : decide (a - 1 + (i : Int) ≤ 3652058) = true := by rw [decide_eq_true_iff]; omega
      have eai : a - 1 + (i : Int) + 1 = a + i := by omega
      go_wp2_with fail
      refine (spec_works l (a + i) _ _ B _ _ (by omega) (by omega) HVL.out HL.out (HP3.out.below' hbr hB3) (Nat.le_trans hB3 hbr.size) hm).mono ?_
      rintro e w4 ⟨rfl, hb4⟩
      have hbr4 := bto hbr hb4
      cases hw : wkB (nums l) (a + i) with
      | true =>
        have HC := hide (cnt_yes hw)
        go_wp2_with fail
        go_roundw
        case rel => exact ⟨i + 1, by omega, by go_num, by rw [HC.out]; exact congrArg (Value.int .i64) (by omega), hbr4⟩
        case measure => simp [intOf]; omega
      | false =>
        have HC := hide (cnt_no hw)
        go_wp2_with fail
        go_roundw
        case rel => exact ⟨i + 1, by omega, by go_num, by rw [HC.out], hbr4⟩
        case measure => simp [intOf]; omega
    · have R5 := hide (R3.out.below hbr R3.out.lt)
      have B5 := hide (bto B3.out hbr)
      obtain rfl : i = M + 1 := by omega
      have eak : a - 1 + ((M + 1 : Nat) : Int) = 3652059 := by omega
      rw [eak]
      by_cases hz : 0 < n - (cnt (nums l) a (M + 1) : Int)
      · have gn : decide (0 < n - (cnt (nums l) a (M + 1) : Int)) = true := by rw [decide_eq_true_iff]; exact hz
        go_wp2_with fail
        refine (spec_dateOf_no 3652059 _ (by omega)).mono ?_
        rintro e w6 ⟨rfl, hb6⟩
        have R6 := hide (R5.out.below hb6 R5.out.lt)
        have B6 := hide (bto B5.out hb6)
        clear hb6 R5 B5
        have r0 := R6.out.cell 0
        have r1 := R6.out.cell 1
        have r2 := R6.out.cell 2
        have f0 := R6.out.frozen 0
        have f1 := R6.out.frozen 1
        have f2 := R6.out.frozen 2
        simp at r0 r1 r2
        have RR := ((R6.out.set_ 0 (.int .i64 0)).set_ 1 (.int .i64 0)).set_ 2 (.int .i64 0)
        have q0 := RR.cell 0
        have q1 := RR.cell 1
        have q2 := RR.cell 2
        simp at q0 q1 q2
        clear RR
        go_wp2_with fail
        refine bodyPost_ret (by simp [results, Tryd.results29, go_sem, q0, q1, q2]; try rfl) rfl ?_
        exact ⟨rfl, bset (bset (bset B6.out (p := ⟨w.heap.size + 1, 0, none⟩) (by simp) _) (p := ⟨w.heap.size + 1, 1, none⟩) (by simp) _) (p := ⟨w.heap.size + 1, 2, none⟩) (by simp) _⟩
      · have gn : decide (0 < n - (cnt (nums l) a (M + 1) : Int)) = false := by rw [decide_eq_false_iff_not]; exact hz
        go_wp2_with fail
        refine (spec_dateOf_no 3652059 _ (by omega)).mono ?_
        rintro e w6 ⟨rfl, hb6⟩
        have R6 := hide (R5.out.below hb6 R5.out.lt)
        have B6 := hide (bto B5.out hb6)
        clear hb6 R5 B5
        have r0 := R6.out.cell 0
        have r1 := R6.out.cell 1
        have r2 := R6.out.cell 2
        have f0 := R6.out.frozen 0
        have f1 := R6.out.frozen 1
        have f2 := R6.out.frozen 2
        simp at r0 r1 r2
        have RR := ((R6.out.set_ 0 (.int .i64 0)).set_ 1 (.int .i64 0)).set_ 2 (.int .i64 0)
        have q0 := RR.cell 0
        have q1 := RR.cell 1
        have q2 := RR.cell 2
        simp at q0 q1 q2
        clear RR
        go_wp2_with fail
        refine bodyPost_ret (by simp [results, Tryd.results29, go_sem, q0, q1, q2]; try rfl) rfl ?_
        exact ⟨rfl, bset (bset (bset B6.out (p := ⟨w.heap.size + 1, 0, none⟩) (by simp) _) (p := ⟨w.heap.size + 1, 1, none⟩) (by simp) _) (p := ⟨w.heap.size + 1, 2, none⟩) (by simp) _⟩
end Go.Proofs.YtdflacnegkgljaaDoor
