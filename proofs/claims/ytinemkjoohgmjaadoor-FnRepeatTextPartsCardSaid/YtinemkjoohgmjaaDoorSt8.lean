/- Contracts: the statements' own copies of stamps. -/
import Derived.Test.YtinemkjoohgmjaaDoorSw
import Derived.Test.YtinemkjoohgmjaaDoorStPl
import Derived.Test.YtinemkjoohgmjaaDoorQt
namespace Go.Proofs.YtinemkjoohgmjaaDoor
open Go.RowKit

theorem toDate_any (y mo d : Int) (w : World) :
    Calls Tryd.prog 35 #[.agg #[.int .i64 y, .int .i64 mo, .int .i64 d]] w fun e w' => e = .returned (.agg #[.int .i64 y, .int .i64 mo, .int .i64 d]) ∧ Below w.heap.size w w' := by
  go_enter Tryd.func35, Tryd.ntmps35
  go_wp2
  go_returns
  exact ⟨rfl, by go_grown⟩
theorem toClock_any (h mi s ms : Int) (w : World) :
    Calls Tryd.prog 36 #[.agg #[.int .i64 h, .int .i64 mi, .int .i64 s, .int .i64 ms]] w fun e w' => e = .returned (.agg #[.int .i64 h, .int .i64 mi, .int .i64 s, .int .i64 ms]) ∧ Below w.heap.size w w' := by
  go_enter Tryd.func36, Tryd.ntmps36
  go_wp2
  go_returns
  exact ⟨rfl, by go_grown⟩
section
attribute [local go_sem] cell_sp sp_alloc sp_drew sp_new storeP_sp
attribute [local go_sem ↓] storeP_eq
set_option maxRecDepth 100000 in
set_option maxHeartbeats 4000000 in
theorem toStamp_any (x : S8) (w : World) :
    Calls Tryd.prog 16 #[.agg x.v] w fun e w' => e = .returned (.agg x.v) ∧ Below w.heap.size w w' := by
  obtain ⟨y, mo, d, h, mi, s, ms, o⟩ := x
  have X0 := ((Blk.new w 38 #[.int .i64 y, .int .i64 mo, .int .i64 d, .int .i64 h, .int .i64 mi, .int .i64 s, .int .i64 ms, .int .i64 o]).alloc (.cells #[.int .i64 0, .int .i64 0, .int .i64 0, .int .i64 0, .int .i64 0, .int .i64 0, .int .i64 0, .int .i64 0] 28)).alloc (.cells #[.int .i64 0, .int .i64 0, .int .i64 0, .int .i64 0, .int .i64 0, .int .i64 0, .int .i64 0, .int .i64 0] 28)
  have R0 := (Blk.newE (W := w.alloc (.cells #[.int .i64 y, .int .i64 mo, .int .i64 d, .int .i64 h, .int .i64 mi, .int .i64 s, .int .i64 ms, .int .i64 o] 38)) (g := w.heap.size + 1) (t := 28) (cs := #[.int .i64 0, .int .i64 0, .int .i64 0, .int .i64 0, .int .i64 0, .int .i64 0, .int .i64 0, .int .i64 0]) (by simp)).alloc (.cells #[.int .i64 0, .int .i64 0, .int .i64 0, .int .i64 0, .int .i64 0, .int .i64 0, .int .i64 0, .int .i64 0] 28)
  have O0 := (Blk.newE (W := (w.alloc (.cells #[.int .i64 y, .int .i64 mo, .int .i64 d, .int .i64 h, .int .i64 mi, .int .i64 s, .int .i64 ms, .int .i64 o] 38)).alloc (.cells #[.int .i64 0, .int .i64 0, .int .i64 0, .int .i64 0, .int .i64 0, .int .i64 0, .int .i64 0, .int .i64 0] 28)) (g := w.heap.size + 1 + 1) (t := 28) (cs := #[.int .i64 0, .int .i64 0, .int .i64 0, .int .i64 0, .int .i64 0, .int .i64 0, .int .i64 0, .int .i64 0]) (by simp))
  have B0 := bal (bal (bal (Below.refl w.heap.size w) (.cells #[.int .i64 y, .int .i64 mo, .int .i64 d, .int .i64 h, .int .i64 mi, .int .i64 s, .int .i64 ms, .int .i64 o] 38)) (.cells #[.int .i64 0, .int .i64 0, .int .i64 0, .int .i64 0, .int .i64 0, .int .i64 0, .int .i64 0, .int .i64 0] 28)) (.cells #[.int .i64 0, .int .i64 0, .int .i64 0, .int .i64 0, .int .i64 0, .int .i64 0, .int .i64 0, .int .i64 0] 28)
  simp only [S8.v]
  go_enter Tryd.func16, Tryd.ntmps16
  go_wp2_with fail
  refine (toDate_any _ _ _ _).mono ?_
  rintro e w1 ⟨rfl, hb1⟩
  have B1 := bto B0 hb1
  have X1 := hide (X0.below hb1 X0.lt)
  have R1 := hide (R0.below hb1 R0.lt)
  have O1 := hide (O0.below hb1 O0.lt)
  have x0 := X1.out.cell 0
  have x1 := X1.out.cell 1
  have x2 := X1.out.cell 2
  have x3 := X1.out.cell 3
  have x4 := X1.out.cell 4
  have x5 := X1.out.cell 5
  have x6 := X1.out.cell 6
  have x7 := X1.out.cell 7
  simp at x0 x1 x2 x3 x4 x5 x6 x7
  have o0 := O1.out.cell 0
  have o1 := O1.out.cell 1
  have o2 := O1.out.cell 2
  have o3 := O1.out.cell 3
  have o4 := O1.out.cell 4
  have o5 := O1.out.cell 5
  have o6 := O1.out.cell 6
  have o7 := O1.out.cell 7
  simp at o0 o1 o2 o3 o4 o5 o6 o7
  have f0 := O1.out.frozen 0
  have f1 := O1.out.frozen 1
  have f2 := O1.out.frozen 2
  have hol := O1.out.lt
  have n1 : ¬ w.heap.size + 1 + 1 = w.heap.size := by omega
  have n2 : ¬ w.heap.size + 1 + 1 = w.heap.size + 1 := by omega
  clear X0 R0 O0 B0 hb1
  go_wp2_with fail
  refine (toClock_any _ _ _ _ _).mono ?_
  rintro e w2 ⟨rfl, hb2⟩
  have O2 := hide ((((O1.out.set_ 0 (.int .i64 y)).set_ 1 (.int .i64 mo)).set_ 2 (.int .i64 d)).below hb2 (by simp; omega))
  have X2 := hide ((((X1.out.far (p := ⟨w.heap.size + 1 + 1, 0, none⟩) (by simp; omega) (.int .i64 y)).far (p := ⟨w.heap.size + 1 + 1, 1, none⟩) (by simp; omega) (.int .i64 mo)).far (p := ⟨w.heap.size + 1 + 1, 2, none⟩) (by simp; omega) (.int .i64 d)).below hb2 (by simp; omega))
  have R2 := hide ((((R1.out.far (p := ⟨w.heap.size + 1 + 1, 0, none⟩) (by simp) (.int .i64 y)).far (p := ⟨w.heap.size + 1 + 1, 1, none⟩) (by simp) (.int .i64 mo)).far (p := ⟨w.heap.size + 1 + 1, 2, none⟩) (by simp) (.int .i64 d)).below hb2 (by simp; omega))
  have B2 := hide (bto (bset (bset (bset B1 (p := ⟨w.heap.size + 1 + 1, 0, none⟩) (by simp; omega) (.int .i64 y)) (p := ⟨w.heap.size + 1 + 1, 1, none⟩) (by simp; omega) (.int .i64 mo)) (p := ⟨w.heap.size + 1 + 1, 2, none⟩) (by simp; omega) (.int .i64 d)) hb2)
  clear x0 x1 x2 x3 x4 x5 x6 x7 o0 o1 o2 o3 o4 o5 o6 o7 f0 f1 f2 X1 R1 O1 B1 hb2
  have x0 := X2.out.cell 0
  have x1 := X2.out.cell 1
  have x2 := X2.out.cell 2
  have x3 := X2.out.cell 3
  have x4 := X2.out.cell 4
  have x5 := X2.out.cell 5
  have x6 := X2.out.cell 6
  have x7 := X2.out.cell 7
  simp at x0 x1 x2 x3 x4 x5 x6 x7
  have o0 := O2.out.cell 0
  have o1 := O2.out.cell 1
  have o2 := O2.out.cell 2
  have o3 := O2.out.cell 3
  have o4 := O2.out.cell 4
  have o5 := O2.out.cell 5
  have o6 := O2.out.cell 6
  have o7 := O2.out.cell 7
  simp at o0 o1 o2 o3 o4 o5 o6 o7
  have f3 := O2.out.frozen 3
  have f4 := O2.out.frozen 4
  have f5 := O2.out.frozen 5
  have f6 := O2.out.frozen 6
  have f7 := O2.out.frozen 7
  have hol := O2.out.lt
  have hsp := (R2.out.sp rfl)
  have hs3 := (((((R2.out.far (p := ⟨w.heap.size + 1 + 1, 3, none⟩) (by simp) (.int .i64 h)).far (p := ⟨w.heap.size + 1 + 1, 4, none⟩) (by simp) (.int .i64 mi)).far (p := ⟨w.heap.size + 1 + 1, 5, none⟩) (by simp) (.int .i64 s)).far (p := ⟨w.heap.size + 1 + 1, 6, none⟩) (by simp) (.int .i64 ms)).far (p := ⟨w.heap.size + 1 + 1, 7, none⟩) (by simp) (.int .i64 o)).sp rfl
  have B3 := hide (bset (bset (bset (bset (bset B2.out (p := ⟨w.heap.size + 1 + 1, 3, none⟩) (by simp; omega) (.int .i64 h)) (p := ⟨w.heap.size + 1 + 1, 4, none⟩) (by simp; omega) (.int .i64 mi)) (p := ⟨w.heap.size + 1 + 1, 5, none⟩) (by simp; omega) (.int .i64 s)) (p := ⟨w.heap.size + 1 + 1, 6, none⟩) (by simp; omega) (.int .i64 ms)) (p := ⟨w.heap.size + 1 + 1, 7, none⟩) (by simp; omega) (.int .i64 o))
  go_wp2_with fail
  refine bodyPost_ret (by simp [results, Tryd.results16, go_sem, cell_sp hs3]; try rfl) rfl ?_
  exact ⟨rfl, brow B3.out (by omega) _⟩
end
end Go.Proofs.YtinemkjoohgmjaaDoor
