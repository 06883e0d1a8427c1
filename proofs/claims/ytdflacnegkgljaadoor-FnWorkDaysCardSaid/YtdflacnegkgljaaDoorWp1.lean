/- WorkPlus: the program. -/
import Derived.Test.YtdflacnegkgljaaDoorWd5
namespace Go.Proofs.YtdflacnegkgljaaDoor
open Go.RowKit Go.Conc
set_option maxRecDepth 100000 in
set_option maxHeartbeats 4000000 in
theorem impl_wp_bad (y mo d n : Int) (l : List D3) (len cap B : Nat) (A : Option Addr) (w : World) (hM : MD w) (hl : l.length = len) (hP : Drs B w A l) (hB : B ≤ w.heap.size) (hm : len ≤ 2305843009213693951) (hb : (vld y mo d && (hvB l && inB n 0 500)) = false) :
    Calls Tryd.prog 30 #[.agg #[.int .i64 y, .int .i64 mo, .int .i64 d], .int .i64 n, .slice A len cap] w fun e w' => e = .returned (.tuple #[.agg #[.int .i64 0, .int .i64 0, .int .i64 0], .bool false]) ∧ Below w.heap.size w w' := by
  have HL := hide hl
  have B0 := hide (bal (bal (Below.refl w.heap.size w) (.cells #[.int .i64 y, .int .i64 mo, .int .i64 d] 25)) (.cells #[.int .i64 0, .int .i64 0, .int .i64 0] 25))
  have X0 := hide ((Blk.new w 25 #[.int .i64 y, .int .i64 mo, .int .i64 d]).alloc (.cells #[.int .i64 0, .int .i64 0, .int .i64 0] 25))
  have R0 := hide (Blk.newE (W := w.alloc (.cells #[.int .i64 y, .int .i64 mo, .int .i64 d] 25)) (g := w.heap.size + 1) (t := 25) (cs := #[.int .i64 0, .int .i64 0, .int .i64 0]) (by simp))
  have HP0 := hide (hP.below' B0.out hB)
  cases h1 : vld y mo d with
  | false =>
    go_enter Tryd.func30, Tryd.ntmps30
    go_wp2_with fail
    refine (impl_dateValid y mo d _ (hM.below B0.out)).mono ?_
    rintro e w1 ⟨rfl, hb1⟩
    have X1 := hide (X0.out.below hb1 X0.out.lt)
    have R1 := hide (R0.out.below hb1 R0.out.lt)
    have B1 := hide (bto B0.out hb1)
    have HP1 := hide (hP.below' B1.out hB)
    clear hb1 X0 R0
    rw [h1]
    have r0 := R1.out.cell 0
    have r1 := R1.out.cell 1
    have r2 := R1.out.cell 2
    have f0 := R1.out.frozen 0
    have f1 := R1.out.frozen 1
    have f2 := R1.out.frozen 2
    simp at r0 r1 r2
    have RR := ((R1.out.set_ 0 (.int .i64 0)).set_ 1 (.int .i64 0)).set_ 2 (.int .i64 0)
    have q0 := RR.cell 0
    have q1 := RR.cell 1
    have q2 := RR.cell 2
    simp at q0 q1 q2
    clear RR
    go_wp2_with fail
    refine bodyPost_ret (by simp [results, Tryd.results30, go_sem, q0, q1, q2]; try rfl) rfl ?_
    exact ⟨rfl, bset (bset (bset B1.out (p := ⟨w.heap.size + 1, 0, none⟩) (by simp) _) (p := ⟨w.heap.size + 1, 1, none⟩) (by simp) _) (p := ⟨w.heap.size + 1, 2, none⟩) (by simp) _⟩
  | true =>
    rw [h1] at hb
    simp only [Bool.true_and] at hb
    cases h2 : hvB l with
    | false =>
      go_enter Tryd.func30, Tryd.ntmps30
      go_wp2_with fail
      refine (impl_dateValid y mo d _ (hM.below B0.out)).mono ?_
      rintro e w1 ⟨rfl, hb1⟩
      have X1 := hide (X0.out.below hb1 X0.out.lt)
      have R1 := hide (R0.out.below hb1 R0.out.lt)
      have B1 := hide (bto B0.out hb1)
      have HP1 := hide (hP.below' B1.out hB)
      clear hb1 X0 R0
      rw [h1]
      go_wp2_with fail
      refine (impl_hv l _ _ B _ _ (hM.below B1.out) HL.out HP1.out (by have hsx := B1.out.size; omega) hm).mono ?_
      rintro e w2 ⟨rfl, hb2⟩
      have X2 := hide (X1.out.below hb2 X1.out.lt)
      have R2 := hide (R1.out.below hb2 R1.out.lt)
      have B2 := hide (bto B1.out hb2)
      clear hb2 X1 R1
      rw [h2]
      have r0 := R2.out.cell 0
      have r1 := R2.out.cell 1
      have r2 := R2.out.cell 2
      have f0 := R2.out.frozen 0
      have f1 := R2.out.frozen 1
      have f2 := R2.out.frozen 2
      simp at r0 r1 r2
      have RR := ((R2.out.set_ 0 (.int .i64 0)).set_ 1 (.int .i64 0)).set_ 2 (.int .i64 0)
      have q0 := RR.cell 0
      have q1 := RR.cell 1
      have q2 := RR.cell 2
      simp at q0 q1 q2
      clear RR
      go_wp2_with fail
      refine bodyPost_ret (by simp [results, Tryd.results30, go_sem, q0, q1, q2]; try rfl) rfl ?_
      exact ⟨rfl, bset (bset (bset B2.out (p := ⟨w.heap.size + 1, 0, none⟩) (by simp) _) (p := ⟨w.heap.size + 1, 1, none⟩) (by simp) _) (p := ⟨w.heap.size + 1, 2, none⟩) (by simp) _⟩
    | true =>
      have h3 : inB n 0 500 = false := by rw [h2] at hb; simpa using hb
      go_enter Tryd.func30, Tryd.ntmps30
      go_wp2_with fail
      refine (impl_dateValid y mo d _ (hM.below B0.out)).mono ?_
      rintro e w1 ⟨rfl, hb1⟩
      have X1 := hide (X0.out.below hb1 X0.out.lt)
      have R1 := hide (R0.out.below hb1 R0.out.lt)
      have B1 := hide (bto B0.out hb1)
      have HP1 := hide (hP.below' B1.out hB)
      clear hb1 X0 R0
      rw [h1]
      go_wp2_with fail
      refine (impl_hv l _ _ B _ _ (hM.below B1.out) HL.out HP1.out (by have hsx := B1.out.size; omega) hm).mono ?_
      rintro e w2 ⟨rfl, hb2⟩
      have X2 := hide (X1.out.below hb2 X1.out.lt)
      have R2 := hide (R1.out.below hb2 R1.out.lt)
      have B2 := hide (bto B1.out hb2)
      clear hb2 X1 R1
      rw [h2]
      have r0 := R2.out.cell 0
      have r1 := R2.out.cell 1
      have r2 := R2.out.cell 2
      have f0 := R2.out.frozen 0
      have f1 := R2.out.frozen 1
      have f2 := R2.out.frozen 2
      simp at r0 r1 r2
      have RR := ((R2.out.set_ 0 (.int .i64 0)).set_ 1 (.int .i64 0)).set_ 2 (.int .i64 0)
      have q0 := RR.cell 0
      have q1 := RR.cell 1
      have q2 := RR.cell 2
      simp at q0 q1 q2
      clear RR
      go_wp2_with (go_at_call 37; refine (within_any _ _ _ _).mono ?_; rintro e w' ⟨rfl, rfl⟩)
      refine bodyPost_ret (by simp [results, Tryd.results30, go_sem, q0, q1, q2]; try rfl) rfl ?_
      exact ⟨rfl, bset (bset (bset B2.out (p := ⟨w.heap.size + 1, 0, none⟩) (by simp) _) (p := ⟨w.heap.size + 1, 1, none⟩) (by simp) _) (p := ⟨w.heap.size + 1, 2, none⟩) (by simp) _⟩
set_option maxRecDepth 100000 in
set_option maxHeartbeats 4000000 in
theorem impl_wp_0 (y mo d n : Int) (l : List D3) (len cap B : Nat) (A : Option Addr) (w : World) (hM : MD w) (hl : l.length = len) (hP : Drs B w A l) (hB : B ≤ w.heap.size) (hm : len ≤ 2305843009213693951) (h1 : vld y mo d = true) (h2 : hvB l = true) (hn : n = 0) :
    Calls Tryd.prog 30 #[.agg #[.int .i64 y, .int .i64 mo, .int .i64 d], .int .i64 n, .slice A len cap] w fun e w' => e = .returned (.tuple #[.agg #[.int .i64 y, .int .i64 mo, .int .i64 d], .bool true]) ∧ Below w.heap.size w w' := by
  have HL := hide hl
  have B0 := hide (bal (bal (Below.refl w.heap.size w) (.cells #[.int .i64 y, .int .i64 mo, .int .i64 d] 25)) (.cells #[.int .i64 0, .int .i64 0, .int .i64 0] 25))
  have X0 := hide ((Blk.new w 25 #[.int .i64 y, .int .i64 mo, .int .i64 d]).alloc (.cells #[.int .i64 0, .int .i64 0, .int .i64 0] 25))
  have R0 := hide (Blk.newE (W := w.alloc (.cells #[.int .i64 y, .int .i64 mo, .int .i64 d] 25)) (g := w.heap.size + 1) (t := 25) (cs := #[.int .i64 0, .int .i64 0, .int .i64 0]) (by simp))
  have HP0 := hide (hP.below' B0.out hB)
  subst hn
  have h3 : inB 0 0 500 = true := by decide
  go_enter Tryd.func30, Tryd.ntmps30
  go_wp2_with fail
  refine (impl_dateValid y mo d _ (hM.below B0.out)).mono ?_
  rintro e w1 ⟨rfl, hb1⟩
  have X1 := hide (X0.out.below hb1 X0.out.lt)
  have R1 := hide (R0.out.below hb1 R0.out.lt)
  have B1 := hide (bto B0.out hb1)
  have HP1 := hide (hP.below' B1.out hB)
  clear hb1 X0 R0
  rw [h1]
  go_wp2_with fail
  refine (impl_hv l _ _ B _ _ (hM.below B1.out) HL.out HP1.out (by have hsx := B1.out.size; omega) hm).mono ?_
  rintro e w2 ⟨rfl, hb2⟩
  have X2 := hide (X1.out.below hb2 X1.out.lt)
  have R2 := hide (R1.out.below hb2 R1.out.lt)
  have B2 := hide (bto B1.out hb2)
  clear hb2 X1 R1
  rw [h2]
  have r0 := R2.out.cell 0
  have r1 := R2.out.cell 1
  have r2 := R2.out.cell 2
  have f0 := R2.out.frozen 0
  have f1 := R2.out.frozen 1
  have f2 := R2.out.frozen 2
  simp at r0 r1 r2
  have RR := ((R2.out.set_ 0 (.int .i64 y)).set_ 1 (.int .i64 mo)).set_ 2 (.int .i64 d)
  have q0 := RR.cell 0
  have q1 := RR.cell 1
  have q2 := RR.cell 2
  simp at q0 q1 q2
  clear RR
  have x0 := X2.out.cell 0
  have x1 := X2.out.cell 1
  have x2 := X2.out.cell 2
  simp at x0 x1 x2
  go_wp2_with (go_at_call 37; refine (within_any _ _ _ _).mono ?_; rintro e w' ⟨rfl, rfl⟩)
  refine bodyPost_ret (by simp [results, Tryd.results30, go_sem, q0, q1, q2]; try rfl) rfl ?_
  exact ⟨rfl, bset (bset (bset B2.out (p := ⟨w.heap.size + 1, 0, none⟩) (by simp) _) (p := ⟨w.heap.size + 1, 1, none⟩) (by simp) _) (p := ⟨w.heap.size + 1, 2, none⟩) (by simp) _⟩
set_option maxRecDepth 100000 in
set_option maxHeartbeats 4000000 in
theorem impl_wp_yes_a (y mo d n : Int) (l : List D3) (len cap B : Nat) (A : Option Addr) (w : World) (hM : MD w) (hl : l.length = len) (hP : Drs B w A l) (hB : B ≤ w.heap.size) (hm : len ≤ 2305843009213693951) (h1 : vld y mo d = true) (h2 : hvB l = true) (hn1 : 1 ≤ n) (hn2 : n ≤ 500) (a : Int) (ha : num y mo d + 1 = a) (hcs : a + 1000 ≤ 3652059) (K : Nat) (hK : K = 1000) (k : Nat) (hk : k < K) (hN : Nth (nums l) a n.toNat k) :
    Calls Tryd.prog 30 #[.agg #[.int .i64 y, .int .i64 mo, .int .i64 d], .int .i64 n, .slice A len cap] w fun e w' => e = .returned (.tuple #[.agg #[.int .i64 (yOf (a + k)), .int .i64 (mOf (a + k)), .int .i64 (dOf (a + k))], .bool true]) ∧ Below w.heap.size w w' := by
  have HL := hide hl
  have B0 := hide (bal (bal (Below.refl w.heap.size w) (.cells #[.int .i64 y, .int .i64 mo, .int .i64 d] 25)) (.cells #[.int .i64 0, .int .i64 0, .int .i64 0] 25))
  have X0 := hide ((Blk.new w 25 #[.int .i64 y, .int .i64 mo, .int .i64 d]).alloc (.cells #[.int .i64 0, .int .i64 0, .int .i64 0] 25))
  have R0 := hide (Blk.newE (W := w.alloc (.cells #[.int .i64 y, .int .i64 mo, .int .i64 d] 25)) (g := w.heap.size + 1) (t := 25) (cs := #[.int .i64 0, .int .i64 0, .int .i64 0]) (by simp))
  have HP0 := hide (hP.below' B0.out hB)
  have h3 : inB n 0 500 = true := inB_true (by omega) hn2
  have hnd := num_bd h1
  have hne : (n == 0) = false := by simp; omega
  go_enter Tryd.func30, Tryd.ntmps30
  go_wp2_with fail
  refine (impl_dateValid y mo d _ (hM.below B0.out)).mono ?_
  rintro e w1 ⟨rfl, hb1⟩
  have X1 := hide (X0.out.below hb1 X0.out.lt)
  have R1 := hide (R0.out.below hb1 R0.out.lt)
  have B1 := hide (bto B0.out hb1)
  have HP1 := hide (hP.below' B1.out hB)
  clear hb1 X0 R0
  rw [h1]
  go_wp2_with fail
  refine (impl_hv l _ _ B _ _ (hM.below B1.out) HL.out HP1.out (by have hsx := B1.out.size; omega) hm).mono ?_
  rintro e w2 ⟨rfl, hb2⟩
  have X2 := hide (X1.out.below hb2 X1.out.lt)
  have R2 := hide (R1.out.below hb2 R1.out.lt)
  have B2 := hide (bto B1.out hb2)
  clear hb2 X1 R1 HP1
  rw [h2]
  have x0 := X2.out.cell 0
  have x1 := X2.out.cell 1
  have x2 := X2.out.cell 2
  simp at x0 x1 x2
  go_wp2_with (go_at_call 37; refine (within_any _ _ _ _).mono ?_; rintro e w' ⟨rfl, rfl⟩)
  refine (impl_number y mo d _ (hM.below B2.out) h1).mono ?_
  rintro e w3 ⟨rfl, hb3⟩
  have R3 := hide (R2.out.below hb3 R2.out.lt)
  have B3 := hide (bto B2.out hb3)
  have HP3 := hide (hP.below' B3.out hB)
  have hM3 := hM.below B3.out
  have hB3 : B ≤ w3.heap.size := Nat.le_trans hB B3.out.size
  have HVL := hide (hvB_all h2)
  have HNN := hide hN
  have hnd2 := num_bd h1
  clear hb3 X2 R2 B2 B1 B0 x0 x1 x2 hP HP0 hN
  go_wp2_with fail
  have hN := HNN.out
  have hK1000 : K ≤ 1000 := by omega
  have haK : a + (K : Int) ≤ 3652059 := by omega
  have ha0 : 1 ≤ a := by omega
  have hEE : ((a + 1000) : Int) = a + K := by omega
  rw [hEE]
  refine (workDays_any a K l _ _ B _ _ hM3 (by omega) haK hK1000 HVL.out HL.out HP3.out hB3 hm).mono ?_
  rintro e w4 ⟨rfl, hch, hb4⟩
  have hcs4 : w3.heap.size < w4.heap.size := (Array.getElem?_eq_some_iff.1 hch).1
  have HN := hide hN
  have HC4 := hide (show w4.heap[w3.heap.size]? = some (.chan K (((wkL (nums l) a K).drop 0).map (Value.int .i64)).toArray true (cnt (nums l) a K) 0 false) from hch)
  have HLN := hide (wkL_len (nums l) a K)
  clear hch hN HNN HVL HP3 hEE hM3
  go_wp2_with fail
  go_loopw [1, 9] (fun nn _ wr => ∃ i : Nat, (i : Int) < n ∧ nn = .int .i64 (n - i) ∧ Hid (wr.heap[w3.heap.size]? = some (.chan K (((wkL (nums l) a K).drop i).map (Value.int .i64)).toArray true (cnt (nums l) a K) i false)) ∧ w3.heap.size < wr.heap.size ∧ Below w3.heap.size w3 wr) (fun nn _ _ => (intOf nn).toNat)
  case atStart => exact ⟨0, by omega, by simp, HC4, hcs4, hb4⟩
  case round =>
    obtain ⟨i, hin, rfl, hC, hcl, hbr⟩ := hrel
    by_cases hi : i < (wkL (nums l) a K).length
    · obtain ⟨v, hv⟩ : ∃ v, (wkL (nums l) a K)[i]? = some v := ⟨_, List.getElem?_eq_getElem hi⟩
      have hdr : (wkL (nums l) a K).drop i = v :: (wkL (nums l) a K).drop (i + 1) := by
        rw [List.drop_eq_getElem_cons hi]
        congr 1
        rw [List.getElem?_eq_getElem hi] at hv
        exact Option.some.inj hv
      have hCC := hC.out
      rw [hdr] at hCC
      have hext : ((((v :: (wkL (nums l) a K).drop (i + 1)).map (Value.int .i64)).toArray).extract 1 ((((v :: (wkL (nums l) a K).drop (i + 1)).map (Value.int .i64)).toArray).size)) = (((wkL (nums l) a K).drop (i + 1)).map (Value.int .i64)).toArray := by
        simp
        exact List.take_of_length_le (by simp)
      have HC5 := hide (heap_setChan wr w3.heap.size K (((wkL (nums l) a K).drop (i + 1)).map (Value.int .i64)).toArray true (cnt (nums l) a K) (i + 1) false hcl)
      have HS5 := hide (below_setChan hbr (Nat.le_refl _) K (((wkL (nums l) a K).drop (i + 1)).map (Value.int .i64)).toArray true (cnt (nums l) a K) (i + 1) false)
      have hcl5 := hide (show w3.heap.size < (wr.setChan w3.heap.size K (((wkL (nums l) a K).drop (i + 1)).map (Value.int .i64)).toArray true (cnt (nums l) a K) (i + 1) false).heap.size by rw [size_setChan]; exact hcl)
      go_upto_region 7 with fail
      refine wp_region_to ?_
      show OpsTo _ _ _ [0, 1] _ _
      refine opsTo_recv (c := w3.heap.size) (cap := K) (buf := (((v :: (wkL (nums l) a K).drop (i + 1)).map (Value.int .i64)).toArray)) (s := cnt (nums l) a K) (r := i) (z := .int .i64 0) (tm := false) (closed := true) true rfl rfl (by simp [go_sem, execOp, rcase, Act.eval]) hCC (by simp) ?_
      rw [show (((v :: (wkL (nums l) a K).drop (i + 1)).map (Value.int .i64)).toArray).getD 0 undef = .int .i64 v from rfl, hext]
      clear hext
      generalize wr.setChan w3.heap.size K (((wkL (nums l) a K).drop (i + 1)).map (Value.int .i64)).toArray true (cnt (nums l) a K) (i + 1) false = w5 at HC5 HS5 hcl5 ⊢
      simp only [got, if_true]
      refine opsTo_value (v := .bool true) (w' := w5) rfl rfl rfl ?_
      refine opsTo_wp ?_
      simp only [wpOps, Act.put]
      by_cases hlast : (i : Int) + 1 = n
      · have hvk : v = a + k := by
          have h5 := wkL_at hk HN.out.1
          have h6 := HN.out.2
          rw [show cnt (nums l) a k = i by omega, hv] at h5
          exact Option.some.inj h5
        subst hvk
        have g0 : ((n - (i : Int) - 1) == 0) = true := by simp; omega
        have R5 := hide (R3.out.below HS5.out R3.out.lt)
        have B5 := hide (bto B3.out HS5.out)
        clear hdr hv hCC HC5 hC
        go_wp2_with fail
        refine (impl_dateOf_yes (a + k) _ (hM.below B5.out) (by omega) (by omega)).mono ?_
        rintro e w6 ⟨rfl, hb6⟩
        have R6 := hide (R5.out.below hb6 R5.out.lt)
        have B6 := hide (bto B5.out hb6)
        clear hb6 R5 B5
        have r0 := R6.out.cell 0
        have r1 := R6.out.cell 1
        have r2 := R6.out.cell 2
        have f0 := R6.out.frozen 0
        have f1 := R6.out.frozen 1
        have f2 := R6.out.frozen 2
        simp at r0 r1 r2
        have RR := ((R6.out.set_ 0 (.int .i64 (yOf (a + k)))).set_ 1 (.int .i64 (mOf (a + k)))).set_ 2 (.int .i64 (dOf (a + k)))
        have q0 := RR.cell 0
        have q1 := RR.cell 1
        have q2 := RR.cell 2
        simp at q0 q1 q2
        clear RR
        go_wp2_with fail
        refine bodyPost_ret (by simp [results, Tryd.results30, go_sem, q0, q1, q2]; try rfl) rfl ?_
        exact ⟨rfl, bset (bset (bset B6.out (p := ⟨w.heap.size + 1, 0, none⟩) (by simp) _) (p := ⟨w.heap.size + 1, 1, none⟩) (by simp) _) (p := ⟨w.heap.size + 1, 2, none⟩) (by simp) _⟩
      · have g0 : ((n - (i : Int) - 1) == 0) = false := by simp; omega
        have hlt2 : (i : Int) + 1 < n := by omega
        clear hdr hv hCC hC
        go_wp2_with fail
        go_roundw
        case rel => exact ⟨i + 1, by omega, by go_num, HC5, hcl5.out, HS5.out⟩
        case measure => simp [intOf]; omega
    · exfalso
      have h4 := Nth.le HN.out hk
      have h6 := HLN.out
      omega
set_option maxRecDepth 100000 in
set_option maxHeartbeats 4000000 in
theorem impl_wp_yes_b (y mo d n : Int) (l : List D3) (len cap B : Nat) (A : Option Addr) (w : World) (hM : MD w) (hl : l.length = len) (hP : Drs B w A l) (hB : B ≤ w.heap.size) (hm : len ≤ 2305843009213693951) (h1 : vld y mo d = true) (h2 : hvB l = true) (hn1 : 1 ≤ n) (hn2 : n ≤ 500) (a : Int) (ha : num y mo d + 1 = a) (hcs : 3652059 < a + 1000) (K : Nat) (hK : a + (K : Int) = 3652059) (k : Nat) (hk : k < K) (hN : Nth (nums l) a n.toNat k) :
    Calls Tryd.prog 30 #[.agg #[.int .i64 y, .int .i64 mo, .int .i64 d], .int .i64 n, .slice A len cap] w fun e w' => e = .returned (.tuple #[.agg #[.int .i64 (yOf (a + k)), .int .i64 (mOf (a + k)), .int .i64 (dOf (a + k))], .bool true]) ∧ Below w.heap.size w w' := by
  have HL := hide hl
  have B0 := hide (bal (bal (Below.refl w.heap.size w) (.cells #[.int .i64 y, .int .i64 mo, .int .i64 d] 25)) (.cells #[.int .i64 0, .int .i64 0, .int .i64 0] 25))
  have X0 := hide ((Blk.new w 25 #[.int .i64 y, .int .i64 mo, .int .i64 d]).alloc (.cells #[.int .i64 0, .int .i64 0, .int .i64 0] 25))
  have R0 := hide (Blk.newE (W := w.alloc (.cells #[.int .i64 y, .int .i64 mo, .int .i64 d] 25)) (g := w.heap.size + 1) (t := 25) (cs := #[.int .i64 0, .int .i64 0, .int .i64 0]) (by simp))
  have HP0 := hide (hP.below' B0.out hB)
  have h3 : inB n 0 500 = true := inB_true (by omega) hn2
  have hnd := num_bd h1
  have hne : (n == 0) = false := by simp; omega
  go_enter Tryd.func30, Tryd.ntmps30
  go_wp2_with fail
  refine (impl_dateValid y mo d _ (hM.below B0.out)).mono ?_
  rintro e w1 ⟨rfl, hb1⟩
  have X1 := hide (X0.out.below hb1 X0.out.lt)
  have R1 := hide (R0.out.below hb1 R0.out.lt)
  have B1 := hide (bto B0.out hb1)
  have HP1 := hide (hP.below' B1.out hB)
  clear hb1 X0 R0
  rw [h1]
  go_wp2_with fail
  refine (impl_hv l _ _ B _ _ (hM.below B1.out) HL.out HP1.out (by have hsx := B1.out.size; omega) hm).mono ?_
  rintro e w2 ⟨rfl, hb2⟩
  have X2 := hide (X1.out.below hb2 X1.out.lt)
  have R2 := hide (R1.out.below hb2 R1.out.lt)
  have B2 := hide (bto B1.out hb2)
  clear hb2 X1 R1 HP1
  rw [h2]
  have x0 := X2.out.cell 0
  have x1 := X2.out.cell 1
  have x2 := X2.out.cell 2
  simp at x0 x1 x2
  go_wp2_with (go_at_call 37; refine (within_any _ _ _ _).mono ?_; rintro e w' ⟨rfl, rfl⟩)
  refine (impl_number y mo d _ (hM.below B2.out) h1).mono ?_
  rintro e w3 ⟨rfl, hb3⟩
  have R3 := hide (R2.out.below hb3 R2.out.lt)
  have B3 := hide (bto B2.out hb3)
  have HP3 := hide (hP.below' B3.out hB)
  have hM3 := hM.below B3.out
  have hB3 : B ≤ w3.heap.size := Nat.le_trans hB B3.out.size
  have HVL := hide (hvB_all h2)
  have HNN := hide hN
  have hnd2 := num_bd h1
  clear hb3 X2 R2 B2 B1 B0 x0 x1 x2 hP HP0 hN
  go_wp2_with fail
  have hN := HNN.out
  have hK1000 : K ≤ 1000 := by omega
  have haK : a + (K : Int) ≤ 3652059 := by omega
  have ha0 : 1 ≤ a := by omega
  have hEE : ((3652059) : Int) = a + K := by omega
  rw [hEE]
  refine (workDays_any a K l _ _ B _ _ hM3 (by omega) haK hK1000 HVL.out HL.out HP3.out hB3 hm).mono ?_
  rintro e w4 ⟨rfl, hch, hb4⟩
  have hcs4 : w3.heap.size < w4.heap.size := (Array.getElem?_eq_some_iff.1 hch).1
  have HN := hide hN
  have HC4 := hide (show w4.heap[w3.heap.size]? = some (.chan K (((wkL (nums l) a K).drop 0).map (Value.int .i64)).toArray true (cnt (nums l) a K) 0 false) from hch)
  have HLN := hide (wkL_len (nums l) a K)
  clear hch hN HNN HVL HP3 hEE hM3
  go_wp2_with fail
  go_loopw [1, 9] (fun nn _ wr => ∃ i : Nat, (i : Int) < n ∧ nn = .int .i64 (n - i) ∧ Hid (wr.heap[w3.heap.size]? = some (.chan K (((wkL (nums l) a K).drop i).map (Value.int .i64)).toArray true (cnt (nums l) a K) i false)) ∧ w3.heap.size < wr.heap.size ∧ Below w3.heap.size w3 wr) (fun nn _ _ => (intOf nn).toNat)
  case atStart => exact ⟨0, by omega, by simp, HC4, hcs4, hb4⟩
  case round =>
    obtain ⟨i, hin, rfl, hC, hcl, hbr⟩ := hrel
    by_cases hi : i < (wkL (nums l) a K).length
    · obtain ⟨v, hv⟩ : ∃ v, (wkL (nums l) a K)[i]? = some v := ⟨_, List.getElem?_eq_getElem hi⟩
      have hdr : (wkL (nums l) a K).drop i = v :: (wkL (nums l) a K).drop (i + 1) := by
        rw [List.drop_eq_getElem_cons hi]
        congr 1
        rw [List.getElem?_eq_getElem hi] at hv
        exact Option.some.inj hv
      have hCC := hC.out
      rw [hdr] at hCC
      have hext : ((((v :: (wkL (nums l) a K).drop (i + 1)).map (Value.int .i64)).toArray).extract 1 ((((v :: (wkL (nums l) a K).drop (i + 1)).map (Value.int .i64)).toArray).size)) = (((wkL (nums l) a K).drop (i + 1)).map (Value.int .i64)).toArray := by
        simp
        exact List.take_of_length_le (by simp)
      have HC5 := hide (heap_setChan wr w3.heap.size K (((wkL (nums l) a K).drop (i + 1)).map (Value.int .i64)).toArray true (cnt (nums l) a K) (i + 1) false hcl)
      have HS5 := hide (below_setChan hbr (Nat.le_refl _) K (((wkL (nums l) a K).drop (i + 1)).map (Value.int .i64)).toArray true (cnt (nums l) a K) (i + 1) false)
      have hcl5 := hide (show w3.heap.size < (wr.setChan w3.heap.size K (((wkL (nums l) a K).drop (i + 1)).map (Value.int .i64)).toArray true (cnt (nums l) a K) (i + 1) false).heap.size by rw [size_setChan]; exact hcl)
      go_upto_region 7 with fail
      refine wp_region_to ?_
      show OpsTo _ _ _ [0, 1] _ _
      refine opsTo_recv (c := w3.heap.size) (cap := K) (buf := (((v :: (wkL (nums l) a K).drop (i + 1)).map (Value.int .i64)).toArray)) (s := cnt (nums l) a K) (r := i) (z := .int .i64 0) (tm := false) (closed := true) true rfl rfl (by simp [go_sem, execOp, rcase, Act.eval]) hCC (by simp) ?_
      rw [show (((v :: (wkL (nums l) a K).drop (i + 1)).map (Value.int .i64)).toArray).getD 0 undef = .int .i64 v from rfl, hext]
      clear hext
      generalize wr.setChan w3.heap.size K (((wkL (nums l) a K).drop (i + 1)).map (Value.int .i64)).toArray true (cnt (nums l) a K) (i + 1) false = w5 at HC5 HS5 hcl5 ⊢
      simp only [got, if_true]
      refine opsTo_value (v := .bool true) (w' := w5) rfl rfl rfl ?_
      refine opsTo_wp ?_
      simp only [wpOps, Act.put]
      by_cases hlast : (i : Int) + 1 = n
      · have hvk : v = a + k := by
          have h5 := wkL_at hk HN.out.1
          have h6 := HN.out.2
          rw [show cnt (nums l) a k = i by omega, hv] at h5
          exact Option.some.inj h5
        subst hvk
        have g0 : ((n - (i : Int) - 1) == 0) = true := by simp; omega
        have R5 := hide (R3.out.below HS5.out R3.out.lt)
        have B5 := hide (bto B3.out HS5.out)
        clear hdr hv hCC HC5 hC
        go_wp2_with fail
        refine (impl_dateOf_yes (a + k) _ (hM.below B5.out) (by omega) (by omega)).mono ?_
        rintro e w6 ⟨rfl, hb6⟩
        have R6 := hide (R5.out.below hb6 R5.out.lt)
        have B6 := hide (bto B5.out hb6)
        clear hb6 R5 B5
        have r0 := R6.out.cell 0
        have r1 := R6.out.cell 1
        have r2 := R6.out.cell 2
        have f0 := R6.out.frozen 0
        have f1 := R6.out.frozen 1
        have f2 := R6.out.frozen 2
        simp at r0 r1 r2
        have RR := ((R6.out.set_ 0 (.int .i64 (yOf (a + k)))).set_ 1 (.int .i64 (mOf (a + k)))).set_ 2 (.int .i64 (dOf (a + k)))
        have q0 := RR.cell 0
        have q1 := RR.cell 1
        have q2 := RR.cell 2
        simp at q0 q1 q2
        clear RR
        go_wp2_with fail
        refine bodyPost_ret (by simp [results, Tryd.results30, go_sem, q0, q1, q2]; try rfl) rfl ?_
        exact ⟨rfl, bset (bset (bset B6.out (p := ⟨w.heap.size + 1, 0, none⟩) (by simp) _) (p := ⟨w.heap.size + 1, 1, none⟩) (by simp) _) (p := ⟨w.heap.size + 1, 2, none⟩) (by simp) _⟩
      · have g0 : ((n - (i : Int) - 1) == 0) = false := by simp; omega
        have hlt2 : (i : Int) + 1 < n := by omega
        clear hdr hv hCC hC
        go_wp2_with fail
        go_roundw
        case rel => exact ⟨i + 1, by omega, by go_num, HC5, hcl5.out, HS5.out⟩
        case measure => simp [intOf]; omega
    · exfalso
      have h4 := Nth.le HN.out hk
      have h6 := HLN.out
      omega
set_option maxRecDepth 100000 in
set_option maxHeartbeats 4000000 in
theorem impl_wp_no_a (y mo d n : Int) (l : List D3) (len cap B : Nat) (A : Option Addr) (w : World) (hM : MD w) (hl : l.length = len) (hP : Drs B w A l) (hB : B ≤ w.heap.size) (hm : len ≤ 2305843009213693951) (h1 : vld y mo d = true) (h2 : hvB l = true) (hn1 : 1 ≤ n) (hn2 : n ≤ 500) (a : Int) (ha : num y mo d + 1 = a) (hcs : a + 1000 ≤ 3652059) (K : Nat) (hK : K = 1000) (hN : cnt (nums l) a K < n.toNat) :
    Calls Tryd.prog 30 #[.agg #[.int .i64 y, .int .i64 mo, .int .i64 d], .int .i64 n, .slice A len cap] w fun e w' => e = .returned (.tuple #[.agg #[.int .i64 0, .int .i64 0, .int .i64 0], .bool false]) ∧ Below w.heap.size w w' := by
  have HL := hide hl
  have B0 := hide (bal (bal (Below.refl w.heap.size w) (.cells #[.int .i64 y, .int .i64 mo, .int .i64 d] 25)) (.cells #[.int .i64 0, .int .i64 0, .int .i64 0] 25))
  have X0 := hide ((Blk.new w 25 #[.int .i64 y, .int .i64 mo, .int .i64 d]).alloc (.cells #[.int .i64 0, .int .i64 0, .int .i64 0] 25))
  have R0 := hide (Blk.newE (W := w.alloc (.cells #[.int .i64 y, .int .i64 mo, .int .i64 d] 25)) (g := w.heap.size + 1) (t := 25) (cs := #[.int .i64 0, .int .i64 0, .int .i64 0]) (by simp))
  have HP0 := hide (hP.below' B0.out hB)
  have h3 : inB n 0 500 = true := inB_true (by omega) hn2
  have hnd := num_bd h1
  have hne : (n == 0) = false := by simp; omega
  go_enter Tryd.func30, Tryd.ntmps30
  go_wp2_with fail
  refine (impl_dateValid y mo d _ (hM.below B0.out)).mono ?_
  rintro e w1 ⟨rfl, hb1⟩
  have X1 := hide (X0.out.below hb1 X0.out.lt)
  have R1 := hide (R0.out.below hb1 R0.out.lt)
  have B1 := hide (bto B0.out hb1)
  have HP1 := hide (hP.below' B1.out hB)
  clear hb1 X0 R0
  rw [h1]
  go_wp2_with fail
  refine (impl_hv l _ _ B _ _ (hM.below B1.out) HL.out HP1.out (by have hsx := B1.out.size; omega) hm).mono ?_
  rintro e w2 ⟨rfl, hb2⟩
  have X2 := hide (X1.out.below hb2 X1.out.lt)
  have R2 := hide (R1.out.below hb2 R1.out.lt)
  have B2 := hide (bto B1.out hb2)
  clear hb2 X1 R1 HP1
  rw [h2]
  have x0 := X2.out.cell 0
  have x1 := X2.out.cell 1
  have x2 := X2.out.cell 2
  simp at x0 x1 x2
  go_wp2_with (go_at_call 37; refine (within_any _ _ _ _).mono ?_; rintro e w' ⟨rfl, rfl⟩)
  refine (impl_number y mo d _ (hM.below B2.out) h1).mono ?_
  rintro e w3 ⟨rfl, hb3⟩
  have R3 := hide (R2.out.below hb3 R2.out.lt)
  have B3 := hide (bto B2.out hb3)
  have HP3 := hide (hP.below' B3.out hB)
  have hM3 := hM.below B3.out
  have hB3 : B ≤ w3.heap.size := Nat.le_trans hB B3.out.size
  have HVL := hide (hvB_all h2)
  have HNN := hide hN
  have hnd2 := num_bd h1
  clear hb3 X2 R2 B2 B1 B0 x0 x1 x2 hP HP0 hN
  go_wp2_with fail
  have hN := HNN.out
  have hK1000 : K ≤ 1000 := by omega
  have haK : a + (K : Int) ≤ 3652059 := by omega
  have ha0 : 1 ≤ a := by omega
  have hEE : ((a + 1000) : Int) = a + K := by omega
  rw [hEE]
  refine (workDays_any a K l _ _ B _ _ hM3 (by omega) haK hK1000 HVL.out HL.out HP3.out hB3 hm).mono ?_
  rintro e w4 ⟨rfl, hch, hb4⟩
  have hcs4 : w3.heap.size < w4.heap.size := (Array.getElem?_eq_some_iff.1 hch).1
  have HN := hide hN
  have HC4 := hide (show w4.heap[w3.heap.size]? = some (.chan K (((wkL (nums l) a K).drop 0).map (Value.int .i64)).toArray true (cnt (nums l) a K) 0 false) from hch)
  have HLN := hide (wkL_len (nums l) a K)
  clear hch hN HNN HVL HP3 hEE hM3
  go_wp2_with fail
  go_loopw [1, 9] (fun nn _ wr => ∃ i : Nat, (i : Int) < n ∧ nn = .int .i64 (n - i) ∧ Hid (wr.heap[w3.heap.size]? = some (.chan K (((wkL (nums l) a K).drop i).map (Value.int .i64)).toArray true (cnt (nums l) a K) i false)) ∧ w3.heap.size < wr.heap.size ∧ Below w3.heap.size w3 wr) (fun nn _ _ => (intOf nn).toNat)
  case atStart => exact ⟨0, by omega, by simp, HC4, hcs4, hb4⟩
  case round =>
    obtain ⟨i, hin, rfl, hC, hcl, hbr⟩ := hrel
    by_cases hi : i < (wkL (nums l) a K).length
    · obtain ⟨v, hv⟩ : ∃ v, (wkL (nums l) a K)[i]? = some v := ⟨_, List.getElem?_eq_getElem hi⟩
      have hdr : (wkL (nums l) a K).drop i = v :: (wkL (nums l) a K).drop (i + 1) := by
        rw [List.drop_eq_getElem_cons hi]
        congr 1
        rw [List.getElem?_eq_getElem hi] at hv
        exact Option.some.inj hv
      have hCC := hC.out
      rw [hdr] at hCC
      have hext : ((((v :: (wkL (nums l) a K).drop (i + 1)).map (Value.int .i64)).toArray).extract 1 ((((v :: (wkL (nums l) a K).drop (i + 1)).map (Value.int .i64)).toArray).size)) = (((wkL (nums l) a K).drop (i + 1)).map (Value.int .i64)).toArray := by
        simp
        exact List.take_of_length_le (by simp)
      have HC5 := hide (heap_setChan wr w3.heap.size K (((wkL (nums l) a K).drop (i + 1)).map (Value.int .i64)).toArray true (cnt (nums l) a K) (i + 1) false hcl)
      have HS5 := hide (below_setChan hbr (Nat.le_refl _) K (((wkL (nums l) a K).drop (i + 1)).map (Value.int .i64)).toArray true (cnt (nums l) a K) (i + 1) false)
      have hcl5 := hide (show w3.heap.size < (wr.setChan w3.heap.size K (((wkL (nums l) a K).drop (i + 1)).map (Value.int .i64)).toArray true (cnt (nums l) a K) (i + 1) false).heap.size by rw [size_setChan]; exact hcl)
      go_upto_region 7 with fail
      refine wp_region_to ?_
      show OpsTo _ _ _ [0, 1] _ _
      refine opsTo_recv (c := w3.heap.size) (cap := K) (buf := (((v :: (wkL (nums l) a K).drop (i + 1)).map (Value.int .i64)).toArray)) (s := cnt (nums l) a K) (r := i) (z := .int .i64 0) (tm := false) (closed := true) true rfl rfl (by simp [go_sem, execOp, rcase, Act.eval]) hCC (by simp) ?_
      rw [show (((v :: (wkL (nums l) a K).drop (i + 1)).map (Value.int .i64)).toArray).getD 0 undef = .int .i64 v from rfl, hext]
      clear hext
      generalize wr.setChan w3.heap.size K (((wkL (nums l) a K).drop (i + 1)).map (Value.int .i64)).toArray true (cnt (nums l) a K) (i + 1) false = w5 at HC5 HS5 hcl5 ⊢
      simp only [got, if_true]
      refine opsTo_value (v := .bool true) (w' := w5) rfl rfl rfl ?_
      refine opsTo_wp ?_
      simp only [wpOps, Act.put]
      by_cases hlast : (i : Int) + 1 = n
      · exfalso
        have h5 := HN.out
        have h6 := HLN.out
        omega
      · have g0 : ((n - (i : Int) - 1) == 0) = false := by simp; omega
        have hlt2 : (i : Int) + 1 < n := by omega
        clear hdr hv hCC hC
        go_wp2_with fail
        go_roundw
        case rel => exact ⟨i + 1, by omega, by go_num, HC5, hcl5.out, HS5.out⟩
        case measure => simp [intOf]; omega
    · have hCC := hC.out
      rw [List.drop_eq_nil_of_le (by omega)] at hCC
      have R5 := hide (R3.out.below hbr R3.out.lt)
      have B5 := hide (bto B3.out hbr)
      go_upto_region 7 with fail
      refine wp_region_to ?_
      show OpsTo _ _ _ [0, 1] _ _
      refine opsTo_shut (c := w3.heap.size) (cap := K) (s := cnt (nums l) a K) (r := i) (z := .int .i64 0) (tm := false) true rfl rfl (by simp [go_sem, execOp, rcase, Act.eval]) hCC ?_
      simp only [got, if_true]
      refine opsTo_value (v := .bool false) (w' := wr) rfl rfl rfl ?_
      refine opsTo_wp ?_
      simp only [wpOps, Act.put]
      have r0 := R5.out.cell 0
      have r1 := R5.out.cell 1
      have r2 := R5.out.cell 2
      have f0 := R5.out.frozen 0
      have f1 := R5.out.frozen 1
      have f2 := R5.out.frozen 2
      simp at r0 r1 r2
      have RR := ((R5.out.set_ 0 (.int .i64 0)).set_ 1 (.int .i64 0)).set_ 2 (.int .i64 0)
      have q0 := RR.cell 0
      have q1 := RR.cell 1
      have q2 := RR.cell 2
      simp at q0 q1 q2
      clear RR
      go_wp2_with fail
      refine bodyPost_ret (by simp [results, Tryd.results30, go_sem, q0, q1, q2]; try rfl) rfl ?_
      exact ⟨rfl, bset (bset (bset B5.out (p := ⟨w.heap.size + 1, 0, none⟩) (by simp) _) (p := ⟨w.heap.size + 1, 1, none⟩) (by simp) _) (p := ⟨w.heap.size + 1, 2, none⟩) (by simp) _⟩
set_option maxRecDepth 100000 in
set_option maxHeartbeats 4000000 in
theorem impl_wp_no_b (y mo d n : Int) (l : List D3) (len cap B : Nat) (A : Option Addr) (w : World) (hM : MD w) (hl : l.length = len) (hP : Drs B w A l) (hB : B ≤ w.heap.size) (hm : len ≤ 2305843009213693951) (h1 : vld y mo d = true) (h2 : hvB l = true) (hn1 : 1 ≤ n) (hn2 : n ≤ 500) (a : Int) (ha : num y mo d + 1 = a) (hcs : 3652059 < a + 1000) (K : Nat) (hK : a + (K : Int) = 3652059) (hN : cnt (nums l) a K < n.toNat) :
    Calls Tryd.prog 30 #[.agg #[.int .i64 y, .int .i64 mo, .int .i64 d], .int .i64 n, .slice A len cap] w fun e w' => e = .returned (.tuple #[.agg #[.int .i64 0, .int .i64 0, .int .i64 0], .bool false]) ∧ Below w.heap.size w w' := by
  have HL := hide hl
  have B0 := hide (bal (bal (Below.refl w.heap.size w) (.cells #[.int .i64 y, .int .i64 mo, .int .i64 d] 25)) (.cells #[.int .i64 0, .int .i64 0, .int .i64 0] 25))
  have X0 := hide ((Blk.new w 25 #[.int .i64 y, .int .i64 mo, .int .i64 d]).alloc (.cells #[.int .i64 0, .int .i64 0, .int .i64 0] 25))
  have R0 := hide (Blk.newE (W := w.alloc (.cells #[.int .i64 y, .int .i64 mo, .int .i64 d] 25)) (g := w.heap.size + 1) (t := 25) (cs := #[.int .i64 0, .int .i64 0, .int .i64 0]) (by simp))
  have HP0 := hide (hP.below' B0.out hB)
  have h3 : inB n 0 500 = true := inB_true (by omega) hn2
  have hnd := num_bd h1
  have hne : (n == 0) = false := by simp; omega
  go_enter Tryd.func30, Tryd.ntmps30
  go_wp2_with fail
  refine (impl_dateValid y mo d _ (hM.below B0.out)).mono ?_
  rintro e w1 ⟨rfl, hb1⟩
  have X1 := hide (X0.out.below hb1 X0.out.lt)
  have R1 := hide (R0.out.below hb1 R0.out.lt)
  have B1 := hide (bto B0.out hb1)
  have HP1 := hide (hP.below' B1.out hB)
  clear hb1 X0 R0
  rw [h1]
  go_wp2_with fail
  refine (impl_hv l _ _ B _ _ (hM.below B1.out) HL.out HP1.out (by have hsx := B1.out.size; omega) hm).mono ?_
  rintro e w2 ⟨rfl, hb2⟩
  have X2 := hide (X1.out.below hb2 X1.out.lt)
  have R2 := hide (R1.out.below hb2 R1.out.lt)
  have B2 := hide (bto B1.out hb2)
  clear hb2 X1 R1 HP1
  rw [h2]
  have x0 := X2.out.cell 0
  have x1 := X2.out.cell 1
  have x2 := X2.out.cell 2
  simp at x0 x1 x2
  go_wp2_with (go_at_call 37; refine (within_any _ _ _ _).mono ?_; rintro e w' ⟨rfl, rfl⟩)
  refine (impl_number y mo d _ (hM.below B2.out) h1).mono ?_
  rintro e w3 ⟨rfl, hb3⟩
  have R3 := hide (R2.out.below hb3 R2.out.lt)
  have B3 := hide (bto B2.out hb3)
  have HP3 := hide (hP.below' B3.out hB)
  have hM3 := hM.below B3.out
  have hB3 : B ≤ w3.heap.size := Nat.le_trans hB B3.out.size
  have HVL := hide (hvB_all h2)
  have HNN := hide hN
  have hnd2 := num_bd h1
  clear hb3 X2 R2 B2 B1 B0 x0 x1 x2 hP HP0 hN
  go_wp2_with fail
  have hN := HNN.out
  have hK1000 : K ≤ 1000 := by omega
  have haK : a + (K : Int) ≤ 3652059 := by omega
  have ha0 : 1 ≤ a := by omega
  have hEE : ((3652059) : Int) = a + K := by omega
  rw [hEE]
  refine (workDays_any a K l _ _ B _ _ hM3 (by omega) haK hK1000 HVL.out HL.out HP3.out hB3 hm).mono ?_
  rintro e w4 ⟨rfl, hch, hb4⟩
  have hcs4 : w3.heap.size < w4.heap.size := (Array.getElem?_eq_some_iff.1 hch).1
  have HN := hide hN
  have HC4 := hide (show w4.heap[w3.heap.size]? = some (.chan K (((wkL (nums l) a K).drop 0).map (Value.int .i64)).toArray true (cnt (nums l) a K) 0 false) from hch)
  have HLN := hide (wkL_len (nums l) a K)
  clear hch hN HNN HVL HP3 hEE hM3
  go_wp2_with fail
  go_loopw [1, 9] (fun nn _ wr => ∃ i : Nat, (i : Int) < n ∧ nn = .int .i64 (n - i) ∧ Hid (wr.heap[w3.heap.size]? = some (.chan K (((wkL (nums l) a K).drop i).map (Value.int .i64)).toArray true (cnt (nums l) a K) i false)) ∧ w3.heap.size < wr.heap.size ∧ Below w3.heap.size w3 wr) (fun nn _ _ => (intOf nn).toNat)
  case atStart => exact ⟨0, by omega, by simp, HC4, hcs4, hb4⟩
  case round =>
    obtain ⟨i, hin, rfl, hC, hcl, hbr⟩ := hrel
    by_cases hi : i < (wkL (nums l) a K).length
    · obtain ⟨v, hv⟩ : ∃ v, (wkL (nums l) a K)[i]? = some v := ⟨_, List.getElem?_eq_getElem hi⟩
      have hdr : (wkL (nums l) a K).drop i = v :: (wkL (nums l) a K).drop (i + 1) := by
        rw [List.drop_eq_getElem_cons hi]
        congr 1
        rw [List.getElem?_eq_getElem hi] at hv
        exact Option.some.inj hv
      have hCC := hC.out
      rw [hdr] at hCC
      have hext : ((((v :: (wkL (nums l) a K).drop (i + 1)).map (Value.int .i64)).toArray).extract 1 ((((v :: (wkL (nums l) a K).drop (i + 1)).map (Value.int .i64)).toArray).size)) = (((wkL (nums l) a K).drop (i + 1)).map (Value.int .i64)).toArray := by
        simp
        exact List.take_of_length_le (by simp)
      have HC5 := hide (heap_setChan wr w3.heap.size K (((wkL (nums l) a K).drop (i + 1)).map (Value.int .i64)).toArray true (cnt (nums l) a K) (i + 1) false hcl)
      have HS5 := hide (below_setChan hbr (Nat.le_refl _) K (((wkL (nums l) a K).drop (i + 1)).map (Value.int .i64)).toArray true (cnt (nums l) a K) (i + 1) false)
      have hcl5 := hide (show w3.heap.size < (wr.setChan w3.heap.size K (((wkL (nums l) a K).drop (i + 1)).map (Value.int .i64)).toArray true (cnt (nums l) a K) (i + 1) false).heap.size by rw [size_setChan]; exact hcl)
      go_upto_region 7 with fail
      refine wp_region_to ?_
      show OpsTo _ _ _ [0, 1] _ _
      refine opsTo_recv (c := w3.heap.size) (cap := K) (buf := (((v :: (wkL (nums l) a K).drop (i + 1)).map (Value.int .i64)).toArray)) (s := cnt (nums l) a K) (r := i) (z := .int .i64 0) (tm := false) (closed := true) true rfl rfl (by simp [go_sem, execOp, rcase, Act.eval]) hCC (by simp) ?_
      rw [show (((v :: (wkL (nums l) a K).drop (i + 1)).map (Value.int .i64)).toArray).getD 0 undef = .int .i64 v from rfl, hext]
      clear hext
      generalize wr.setChan w3.heap.size K (((wkL (nums l) a K).drop (i + 1)).map (Value.int .i64)).toArray true (cnt (nums l) a K) (i + 1) false = w5 at HC5 HS5 hcl5 ⊢
      simp only [got, if_true]
      refine opsTo_value (v := .bool true) (w' := w5) rfl rfl rfl ?_
      refine opsTo_wp ?_
      simp only [wpOps, Act.put]
      by_cases hlast : (i : Int) + 1 = n
      · exfalso
        have h5 := HN.out
        have h6 := HLN.out
        omega
      · have g0 : ((n - (i : Int) - 1) == 0) = false := by simp; omega
        have hlt2 : (i : Int) + 1 < n := by omega
        clear hdr hv hCC hC
        go_wp2_with fail
        go_roundw
        case rel => exact ⟨i + 1, by omega, by go_num, HC5, hcl5.out, HS5.out⟩
        case measure => simp [intOf]; omega
    · have hCC := hC.out
      rw [List.drop_eq_nil_of_le (by omega)] at hCC
      have R5 := hide (R3.out.below hbr R3.out.lt)
      have B5 := hide (bto B3.out hbr)
      go_upto_region 7 with fail
      refine wp_region_to ?_
      show OpsTo _ _ _ [0, 1] _ _
      refine opsTo_shut (c := w3.heap.size) (cap := K) (s := cnt (nums l) a K) (r := i) (z := .int .i64 0) (tm := false) true rfl rfl (by simp [go_sem, execOp, rcase, Act.eval]) hCC ?_
      simp only [got, if_true]
      refine opsTo_value (v := .bool false) (w' := wr) rfl rfl rfl ?_
      refine opsTo_wp ?_
      simp only [wpOps, Act.put]
      have r0 := R5.out.cell 0
      have r1 := R5.out.cell 1
      have r2 := R5.out.cell 2
      have f0 := R5.out.frozen 0
      have f1 := R5.out.frozen 1
      have f2 := R5.out.frozen 2
      simp at r0 r1 r2
      have RR := ((R5.out.set_ 0 (.int .i64 0)).set_ 1 (.int .i64 0)).set_ 2 (.int .i64 0)
      have q0 := RR.cell 0
      have q1 := RR.cell 1
      have q2 := RR.cell 2
      simp at q0 q1 q2
      clear RR
      go_wp2_with fail
      refine bodyPost_ret (by simp [results, Tryd.results30, go_sem, q0, q1, q2]; try rfl) rfl ?_
      exact ⟨rfl, bset (bset (bset B5.out (p := ⟨w.heap.size + 1, 0, none⟩) (by simp) _) (p := ⟨w.heap.size + 1, 1, none⟩) (by simp) _) (p := ⟨w.heap.size + 1, 2, none⟩) (by simp) _⟩
end Go.Proofs.YtdflacnegkgljaaDoor
